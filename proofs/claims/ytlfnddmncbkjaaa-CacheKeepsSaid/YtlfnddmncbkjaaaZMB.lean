/- A step as data: what it keeps. No program in sight. -/
import Derived.Test.YtlfnddmncbkjaaaZMA
import Derived.Test.YtlfnddmncbkjaaaZFbEnc3
import Derived.Deep.MidRow
import Derived.StillTailTactics
import Derived.Laws.IdiomCopy
import Derived.ArgAppend
namespace Go.Proofs.Ytlfnddmncbkjaaa.Fb
set_option linter.unusedVariables false
set_option linter.unusedSimpArgs false
open Go.RowKit

theorem mLoad_u (l : List Int) (op pc : Int) (hop : 11 ≤ op ∧ op ≤ 15) (hpc : U32 pc) (hb : ∀ i, 0 ≤ l.getD i 0 ∧ l.getD i 0 < 256) : U32 (mLoad l op pc) := by
  by_cases h : mLoadOk l op pc = true
  · obtain ⟨k, rfl⟩ := Int.eq_ofNat_of_zero_le hpc.1
    have h0 := hb k
    have h1 := hb (k + 1)
    have h2 := hb (k + 2)
    have h3 := hb (k + 3)
    have ho : op = 11 ∨ op = 12 ∨ op = 13 ∨ op = 14 ∨ op = 15 := by omega
    rcases ho with rfl | rfl | rfl | rfl | rfl
    · rw [mLoad_11 h]; exact mod_lo _
    · rw [mLoad_12 h]; exact mod_lo _
    · rw [mLoad_13 h]; unfold U32; omega
    · rw [mLoad_14 h]; unfold U32; omega
    · rw [mLoad_15 h]; unfold U32; omega
  · unfold mLoad; rw [if_neg h]; unfold U32; omega
theorem reg_u {h : Hart} (wf : h.Wf) (r : Int) : U32 (h.reg r) := by
  unfold Hart.reg
  by_cases hr : r.toNat < h.regs.length
  · rw [List.getD, List.getElem?_eq_getElem hr]; exact wf.regs _ (List.getElem_mem hr)
  · rw [List.getD, List.getElem?_eq_none (by omega)]; show U32 0; unfold U32; omega
theorem CoreD.Wf.set {d : CoreD} (wf : d.Wf) (r x : Int) (hx : U32 x) : (d.set r x).Wf := by
  refine ⟨?_, wf.m, wf.out, wf.fr, wf.tw, wf.mlen, wf.olen⟩
  show (d.h.setReg r x).Wf
  unfold Hart.setReg
  split
  · refine ⟨by simp [wf.h.len], fun y hy => ?_, wf.h.pc, wf.h.heldAt, wf.h.state, wf.h.cause⟩
    rcases List.mem_or_eq_of_mem_set hy with h | rfl
    · exact wf.h.regs _ h
    · exact hx
  · exact wf.h
theorem CoreD.Wf.setPc {d : CoreD} (wf : d.Wf) (x : Int) (hx : U32 x) : (d.setPc x).Wf :=
  ⟨⟨wf.h.len, wf.h.regs, hx, wf.h.heldAt, wf.h.state, wf.h.cause⟩, wf.m, wf.out, wf.fr, wf.tw, wf.mlen, wf.olen⟩
theorem CoreD.Wf.trap {d : CoreD} (wf : d.Wf) (c : Int) (hc : 1 ≤ c ∧ c ≤ 6) : (d.trap c).Wf :=
  ⟨⟨wf.h.len, wf.h.regs, wf.h.pc, wf.h.heldAt, ⟨(by decide : (-9223372036854775808 : Int) ≤ 2), (by decide : (2 : Int) ≤ 9223372036854775807)⟩, by show _ ≤ c ∧ c ≤ _; omega⟩, wf.m, wf.out, wf.fr, wf.tw, wf.mlen, wf.olen⟩
theorem CoreD.Wf.hold {d : CoreD} (wf : d.Wf) (b : Bool) (x : Int) (hx : U32 x) : (d.hold b x).Wf :=
  ⟨⟨wf.h.len, wf.h.regs, wf.h.pc, hx, wf.h.state, wf.h.cause⟩, wf.m, wf.out, wf.fr, wf.tw, wf.mlen, wf.olen⟩
theorem lay_bytes {l : List Int} (hb : Bytes l) (at_ w : Int) : ∀ m, Bytes (lay l at_ w m)
  | 0 => hb
  | m + 1 => fun x hx => by
    rcases List.mem_or_eq_of_mem_set hx with h | rfl
    · exact lay_bytes hb at_ w m x h
    · omega
theorem CoreD.Wf.put {d : CoreD} (wf : d.Wf) (op at_ x : Int) (ha : U32 at_) : (d.put op at_ x).Wf := by
  unfold CoreD.put
  split
  · rename_i hok
    have e : mStore d.m op at_ x = lay d.m at_ x (msize op).toNat := by unfold mStore; rw [if_pos hok]
    exact ⟨wf.h, by show Bytes (mStore d.m op at_ x); rw [e]; exact lay_bytes wf.m _ _ _, wf.out, ha, mod_lo _, by show (mStore d.m op at_ x).length ≤ _; rw [mStore_length]; exact wf.mlen, wf.olen⟩
  · exact wf
theorem CoreD.put_h (d : CoreD) (op at_ x : Int) : (d.put op at_ x).h = d.h := by unfold CoreD.put; split <;> rfl
theorem CoreD.put_out (d : CoreD) (op at_ x : Int) : (d.put op at_ x).out = d.out := by unfold CoreD.put; split <;> rfl
theorem CoreD.put_mlen (d : CoreD) (op at_ x : Int) : (d.put op at_ x).m.length = d.m.length := by unfold CoreD.put; split <;> simp [mStore_length]
theorem immOp_u (op : Int) : 28 ≤ immOp op ∧ immOp op ≤ 37 := by unfold immOp; repeat' split <;> omega
theorem atomS_wf {d : CoreD} (wf : d.Wf) (op a b : Int) (ha : U32 a) (hb : U32 b) : (atomS d op a b).1.Wf ∧ U32 (atomS d op a b).2.1 := by
  have hl := mLoad_u d.m 13 a (by omega) ha wf.m.getD
  unfold atomS
  split
  · split
    · exact ⟨wf.hold _ _ ha, hl⟩
    · split
      · split
        · exact ⟨(wf.put _ _ _ ha).hold _ _ (by unfold U32; omega), by show U32 0; unfold U32; omega⟩
        · exact ⟨wf.hold _ _ (by unfold U32; omega), by show U32 1; unfold U32; omega⟩
      · exact ⟨wf.put _ _ _ ha, hl⟩
  · exact ⟨wf.trap _ (by split <;> omega), by show U32 0; unfold U32; omega⟩
theorem callS_wf {d : CoreD} (wf : d.Wf) (ho : d.out.length < 1099511627776) : (callS d).1.Wf := by
  unfold callS
  split
  · exact ⟨⟨wf.h.len, wf.h.regs, wf.h.pc, wf.h.heldAt, ⟨(by decide : (-9223372036854775808 : Int) ≤ 1), (by decide : (1 : Int) ≤ 9223372036854775807)⟩, wf.h.cause⟩, wf.m, wf.out, wf.fr, wf.tw, wf.mlen, wf.olen⟩
  · split
    · refine ⟨wf.h, wf.m, fun x hx => ?_, wf.fr, wf.tw, wf.mlen, by show (d.out ++ [d.h.reg 10]).length ≤ _; rw [List.length_append, List.length_singleton]; omega⟩
      rcases List.mem_append.1 hx with h | h
      · exact wf.out x h
      · rw [List.mem_singleton] at h; subst h; exact reg_u wf.h _
    · exact wf.trap _ (by omega)
theorem ite_ind {α : Type} {P : α → Prop} {c : Prop} [Decidable c] {x y : α} (h1 : c → P x) (h2 : ¬ c → P y) : P (if c then x else y) := by
  by_cases h : c
  · rw [if_pos h]; exact h1 h
  · rw [if_neg h]; exact h2 h
theorem doS_wf {d : CoreD} (wf : d.Wf) (i : InsD) (ho : d.out.length < 1099511627776) : (doS i d).Wf := by
  have ha := reg_u wf.h i.rs1
  have hb := reg_u wf.h i.rs2
  have hn : U32 (i.imm % 4294967296) := mod_lo _
  unfold doS
  dsimp only
  repeat' (refine ite_ind (P := CoreD.Wf) (fun _ => ?_) (fun _ => ?_))
  all_goals first
    | exact wf.setPc _ (ite_lo (mod_lo _) (mod_lo _))
    | exact (wf.set _ _ (mod_lo _)).setPc _ (mod_lo _)
    | exact (wf.set _ _ (mod_lo _)).setPc _ (by unfold U32; omega)
    | exact wf.setPc _ (mod_lo _)
    | exact (wf.set _ _ (mLoad_u _ _ _ (by omega) (mod_lo _) wf.m.getD)).setPc _ (mod_lo _)
    | exact (wf.put _ _ _ (mod_lo _)).setPc _ (mod_lo _)
    | exact (wf.set _ _ (alu_lo _ _ _ ha hn)).setPc _ (mod_lo _)
    | exact (wf.set _ _ (alu_lo _ _ _ ha hb)).setPc _ (mod_lo _)
    | exact ((atomS_wf wf _ _ _ ha hb).1.set _ _ (atomS_wf wf _ _ _ ha hb).2).setPc _ (mod_lo _)
    | exact (atomS_wf wf _ _ _ ha hb).1
    | exact (callS_wf wf ho).setPc _ (mod_lo _)
    | exact callS_wf wf ho
    | exact wf.trap _ (by omega)
theorem CoreD.Wf.none {d : CoreD} (wf : d.Wf) : d.none.Wf := ⟨wf.h, wf.m, wf.out, by show U32 0; unfold U32; omega, by show U32 0; unfold U32; omega, wf.mlen, wf.olen⟩
theorem fetchS_c (l : List Int) (pc : Int) : (fetchS l pc).2 = 0 ∨ (fetchS l pc).2 = 1 ∨ (fetchS l pc).2 = 2 := by
  unfold fetchS
  split
  · cases dec (mLoad l 13 pc) <;> simp
  · simp
theorem goS_wf {d : CoreD} (wf : d.Wf) (ho : d.out.length < 1099511627776) : (goS d).Wf := by
  unfold goS
  have := fetchS_c d.m d.h.pc
  split
  · exact doS_wf wf.none _ ho
  · exact wf.none.trap _ (by omega)
theorem andNot1 (x : Int) (hx : U32 x) : bits .andNot .u32 x 1 = x - x % 2 := by
  obtain ⟨n, rfl⟩ := Int.eq_ofNat_of_zero_le hx.1
  have hn : n < 4294967296 := by have := hx.2; omega
  show IntKind.u32.wrap (((BitVec.ofInt 32 (n : Int) &&& ~~~ BitVec.ofInt 32 1).toNat : Nat) : Int) = _
  have hb : ∀ i : Fin 32, (BitVec.ofInt 32 1).getLsbD i.val = decide (i.val < 1) := by decide
  have e : BitVec.ofInt 32 (n : Int) &&& ~~~ BitVec.ofInt 32 1 = (BitVec.ofInt 32 (n : Int) >>> 1) <<< 1 := by
    apply BitVec.eq_of_getLsbD_eq
    intro i hi
    rw [BitVec.getLsbD_and, BitVec.getLsbD_not, hb ⟨i, hi⟩, BitVec.getLsbD_shiftLeft, BitVec.getLsbD_ushiftRight]
    by_cases h : i < 1
    · simp [h, hi]
    · simp [h, hi]; rw [show 1 + (i - 1) = i from by omega, BitVec.getLsbD_eq_getElem hi]
  rw [e, BitVec.toNat_shiftLeft, BitVec.toNat_ushiftRight, BitVec.ofInt_natCast, BitVec.toNat_ofNat, IntKind.wrap_u32, Nat.shiftLeft_eq, Nat.shiftRight_eq_div_pow]
  omega
end Go.Proofs.Ytlfnddmncbkjaaa.Fb

/- A hart at work begins; a struct laid whole into cells that are there. No program in sight. -/
namespace Go.Proofs.Ytlfnddmncbkjaaa.Fb
set_option linter.unusedVariables false
set_option linter.unusedSimpArgs false
open Go.RowKit
theorem below_setCells {B : Nat} {a : World} {b : Nat} (hb : B ≤ b) : ∀ (vs : List Value) (o : Nat) (w : World), Below B a w → Below B a (w.setCells b o vs)
  | [], _, _, h => h
  | v :: r, o, w, h => below_setCells hb r (o + 1) _ (h.setCell hb v)
theorem at_setCells {b' off : Nat} {xs : List Value} {b : Nat} (hne : b ≠ b') : ∀ (vs : List Value) (o : Nat) (w : World), At w b' off xs → At (w.setCells b o vs) b' off xs
  | [], _, _, h => h
  | v :: r, o, w, h => at_setCells hne r (o + 1) _ (h.set_other hne v)
theorem sl_setCells {v : Value} {s n : Nat} {xs : List Value} {b : Nat} (hne : ∀ b' off n c, v = .slice (some ⟨b', off, none⟩) n c → b ≠ b') : ∀ (vs : List Value) (o : Nat) (w : World), Sl w v s n xs → Sl (w.setCells b o vs) v s n xs
  | [], _, _, h => h
  | u :: r, o, w, h => sl_setCells hne r (o + 1) _ (h.set_other hne u)
/-- the cells that are there take a struct -/
theorem there_at {w : World} {b o n : Nat} {xs : List Value} (h : At w b o xs) (hn : xs.length = n) (hf : ∀ o, w.frozen? ⟨b, o, none⟩ = false) : w.there b o n := fun j hj => by
  have h1 := h j (by omega)
  exact ⟨by rw [h1]; rfl, hf _⟩
theorem load_setCells {P : Program} {w : World} {b o : Nat} {cs : Array Value} {ty : TypeId} {d : TypeDesc} (ht : w.there b o cs.size) (hu : P.underlying ty = some d) (hd : d.isRow = true) (hi : (P.info? ty).map (·.size) = some cs.size) :
    (loadVar ty ⟨b, o, none⟩).run P (w.setCells b o cs.toList) = .ok (.agg cs) (w.setCells b o cs.toList) := by
  have hr := World.rangeAt_setCells_same w b o cs.toList (by simpa using ht)
  have := run_loadVar_mid (P := P) (w.setCells b o cs.toList) b o ty cs.toList d hr hu hd (by simpa using hi)
  simpa using this
theorem results_c3 {P : Program} {fn : Func} {a x y z : Tmp} {t : TypeId} (h : fn.results = #[.cell a t, .tmp x, .tmp y, .tmp z]) (tmps : Array Value) {p : Addr} {w : World} {v : Value} (hp : tmps.getD a undef = .pointer (some p)) (hl : (loadVar t p).run P w = .ok v w) :
    (results fn tmps).run P w = .ok (.tuple #[v, tmps.getD x undef, tmps.getD y undef, tmps.getD z undef]) w := by
  have hp' : tmps[a]?.getD undef = .pointer (some p) := by rw [← hp]; simp
  simp [results, h, hp', hl, Sem.run_bind, asAddr]
/-- a read in a region whose last store alone writes -/
theorem wpStill_load_at {P : Program} {ops : Array Oper} {w : World} {Q : Act → Prop} {a : Act} {o : Oper} {rest : List Oper} (hgd : o.guard = none) (ty : TypeId) (x : Operand) (ho : o.op = .load ty x) (p : Addr) (hx : a.eval x = .pointer (some p)) (v : Value)
    (hr : (Instr.loadAt ty (.pointer (some p))).run P w = .ok v w) (h : wpStill P ops w Q rest (a.put o.dst v)) : wpStill P ops w Q (o :: rest) a := by
  refine wpStill_step (fun K hK => ?_)
  rw [if_pos (by simp [Region.wanted, hgd])]
  unfold Oper.still execOp
  simp only [ho, hx, Sem.run_bind, Sem.run_pure, hr]
  exact ⟨rfl, hK _ h⟩
theorem CoreAt.init {w : World} {hb ho : Nat} {vm : Value} {ty tC : TypeId} {h : Hart} {l : List Int} (hat : At w hb ho (hlist h)) (hfz : ∀ o, w.frozen? ⟨hb, o, none⟩ = false) (hlt : hb < w.heap.size)
    (hv : Ints .u8 w vm l) (hm : ∀ b off n c, vm = .slice (some ⟨b, off, none⟩) n c → b ≠ hb ∧ b < w.heap.size ∧ ∀ o, w.frozen? ⟨b, o, none⟩ = false) (hml : ∀ k, vm.ownBlock = some k → k < w.heap.size) :
    CoreAt w.heap.size hb ho vm ty (w.alloc (.cells #[.pointer (some ⟨hb, ho, none⟩), vm, .slice none 0 0, .int .u32 0, .int .u32 0] tC)) ⟨h, l, [], 0, 0⟩ := by
  have hB : Below w.heap.size w (w.alloc (.cells #[.pointer (some ⟨hb, ho, none⟩), vm, .slice none 0 0, .int .u32 0, .int .u32 0] tC)) := Below.alloc (Below.refl _ _) (Nat.le_refl _) _
  refine ⟨hlt, by simp, by simp, by simp, by simp, fun o => ?_, hat.below hB, fun o => ?_, hv.below hB, fun b off n c e => ?_, ⟨.slice none 0 0, by simp, World.ownsRow_nil _ _ _ _⟩, hml⟩
  · unfold World.frozen?; rw [heap_alloc_new]; simp
  · exact (hB.frozen (p := ⟨hb, o, none⟩) hlt).trans (hfz o)
  · obtain ⟨x1, x2, x3⟩ := hm b off n c e
    exact ⟨x2, x1, by simp; omega, fun o => (hB.frozen (p := ⟨b, o, none⟩) x2).trans (x3 o)⟩
/-- a row of the call's own as a hart's bytes -/
theorem owns_mem {w : World} {B hb : Nat} {e : TypeId} {vm : Value} {n : Nat} {xs : List Value} (h : w.ownsRow B e 1 vm n xs) (hB : hb < B) :
    (∀ b off n c, vm = .slice (some ⟨b, off, none⟩) n c → b ≠ hb ∧ b < w.heap.size ∧ ∀ o, w.frozen? ⟨b, o, none⟩ = false) ∧ (∀ k, vm.ownBlock = some k → k < w.heap.size) := by
  refine ⟨fun b off m c e => ?_, fun k e => (h.lt k e).2⟩
  rcases owns_open h with ⟨rfl, _⟩ | ⟨g, cap, rfl, h1, h2, _, _, _, h3⟩
  · cases e
  · injection e with e1
    injection e1 with e1
    injection e1 with e1
    subst e1
    exact ⟨by omega, h2, h3⟩
def hart0 : Hart := ⟨List.replicate 32 0, 0, false, 0, 0, 0⟩
def stepOk (h : Hart) (l : List Int) : Bool := h.ok && (h.state == 0) && decide (l.length ≤ 4096)
def stepD (h : Hart) (l : List Int) : CoreD := if stepOk h l = true then goS ⟨h, l, [], 0, 0⟩ else ⟨hart0, [], [], 0, 0⟩
end Go.Proofs.Ytlfnddmncbkjaaa.Fb

/- A step keeps a hart that may be; a trap leaves the rest. No program in sight. -/
namespace Go.Proofs.Ytlfnddmncbkjaaa.Fb
set_option linter.unusedVariables false
set_option linter.unusedSimpArgs false
open Go.RowKit
structure Run (n : Nat) (d : CoreD) : Prop where
  ok : d.h.ok = true
  st : d.h.state = 0
  ml : d.m.length = n
  ol : d.out.length ≤ 1
structure Fin0 (d0 d : CoreD) : Prop where
  ok : d.h.ok = true
  ml : d.m.length = d0.m.length
  ol : d.out.length ≤ 1
  no : ¬ d.h.state = 0 → { d.h with state := d0.h.state, cause := d0.h.cause } = d0.h ∧ d.m = d0.m ∧ d.out = d0.out
theorem Run.fin {d0 d : CoreD} (h : Run d0.m.length d) : Fin0 d0 d := ⟨h.ok, h.ml, h.ol, fun e => absurd h.st e⟩
theorem ok_parts {h : Hart} (hs : h.state = 0) : h.ok = true ↔ h.regs.getD 0 0 = 0 ∧ (h.held = true ∨ h.heldAt = 0) ∧ h.cause = 0 := by
  unfold Hart.ok
  rw [hs]
  simp only [Bool.and_eq_true, Bool.or_eq_true, beq_iff_eq, decide_eq_true_eq]
  constructor
  · rintro ⟨⟨h1, h2⟩, h3 | h3⟩
    · exact absurd h3.1.1 (by decide)
    · exact ⟨h1, h2, h3.2⟩
  · rintro ⟨h1, h2, h3⟩
    exact ⟨⟨h1, h2⟩, .inr ⟨.inl (by first | rfl | trivial), h3⟩⟩
theorem Run.set {n : Nat} {d : CoreD} (h : Run n d) (r x : Int) : Run n (d.set r x) := by
  refine ⟨?_, ?_, h.ml, h.ol⟩
  · have hs : (d.set r x).h.state = 0 := by unfold CoreD.set Hart.setReg; split <;> exact h.st
    rw [ok_parts hs]
    have h0 := (ok_parts h.st).1 h.ok
    unfold CoreD.set Hart.setReg
    split
    · refine ⟨?_, h0.2⟩
      show (d.h.regs.set r.toNat x).getD 0 0 = 0
      rw [List.getD, List.getElem?_set_ne (by omega)]
      exact h0.1
    · exact h0
  · unfold CoreD.set Hart.setReg; split <;> exact h.st
theorem Run.setPc {n : Nat} {d : CoreD} (h : Run n d) (x : Int) : Run n (d.setPc x) := ⟨h.ok, h.st, h.ml, h.ol⟩
theorem Run.hold {n : Nat} {d : CoreD} (h : Run n d) (b : Bool) (x : Int) (hx : b = true ∨ x = 0) : Run n (d.hold b x) := by
  refine ⟨?_, h.st, h.ml, h.ol⟩
  have h0 := (ok_parts h.st).1 h.ok
  exact (ok_parts (h := (d.hold b x).h) h.st).2 ⟨h0.1, hx, h0.2.2⟩
theorem Run.put {n : Nat} {d : CoreD} (h : Run n d) (op at_ x : Int) : Run n (d.put op at_ x) :=
  ⟨by rw [CoreD.put_h]; exact h.ok, by rw [CoreD.put_h]; exact h.st, by rw [CoreD.put_mlen]; exact h.ml, by rw [CoreD.put_out]; exact h.ol⟩
theorem Run.trap {d : CoreD} (h : Run d.m.length d) (c : Int) (hc : 1 ≤ c ∧ c ≤ 6) : Fin0 d (d.trap c) := by
  refine ⟨?_, rfl, h.ol, fun _ => ⟨rfl, rfl, rfl⟩⟩
  have h0 := (ok_parts h.st).1 h.ok
  unfold Hart.ok CoreD.trap Hart.trap
  simp only [Bool.and_eq_true, Bool.or_eq_true, beq_iff_eq, decide_eq_true_eq]
  exact ⟨⟨h0.1, h0.2.1⟩, .inl ⟨⟨by first | rfl | trivial, hc.1⟩, hc.2⟩⟩
theorem atomS_run {d : CoreD} (h : Run d.m.length d) (op a b : Int) : ((atomS d op a b).2.2 = true ∧ Run d.m.length (atomS d op a b).1) ∨ ((atomS d op a b).2.2 = false ∧ Fin0 d (atomS d op a b).1) := by
  unfold atomS
  split
  · split
    · exact .inl ⟨rfl, h.hold true a (.inl (by first | rfl | trivial))⟩
    · split
      · split
        · exact .inl ⟨by first | rfl | trivial, (h.put _ _ _).hold false 0 (.inr rfl)⟩
        · exact .inl ⟨rfl, h.hold false 0 (.inr rfl)⟩
      · exact .inl ⟨rfl, h.put _ _ _⟩
  · exact .inr ⟨rfl, h.trap _ (by split <;> omega)⟩
theorem callS_run {d : CoreD} (h : Run d.m.length d) (ho : d.out = []) : ((callS d).2 = true ∧ Run d.m.length (callS d).1) ∨ ((callS d).2 = false ∧ Fin0 d (callS d).1) := by
  unfold callS
  split
  · refine .inr ⟨rfl, ?_, rfl, h.ol, fun _ => ⟨rfl, rfl, rfl⟩⟩
    have h0 := (ok_parts h.st).1 h.ok
    unfold Hart.ok
    simp only [Bool.and_eq_true, Bool.or_eq_true, beq_iff_eq, decide_eq_true_eq]
    exact ⟨⟨h0.1, h0.2.1⟩, .inr ⟨.inr trivial, h0.2.2⟩⟩
  · split
    · exact .inl ⟨rfl, h.ok, h.st, rfl, by show (d.out ++ [d.h.reg 10]).length ≤ 1; rw [ho]; simp⟩
    · exact .inr ⟨rfl, h.trap 5 (by omega)⟩
theorem doS_fin {d : CoreD} (h : Run d.m.length d) (ho : d.out = []) (i : InsD) : Fin0 d (doS i d) := by
  unfold doS
  dsimp only
  repeat' (refine ite_ind (P := Fin0 d) (fun _ => ?_) (fun _ => ?_))
  all_goals first
    | exact Run.fin ((h.set _ _).setPc _)
    | exact Run.fin (h.setPc _)
    | exact Run.fin ((h.put _ _ _).setPc _)
    | exact h.trap _ (by omega)
    | (rename_i hq; rcases atomS_run h i.op (d.h.reg i.rs1) (d.h.reg i.rs2) with ⟨e, hr⟩ | ⟨e, hr⟩
       · exact Run.fin ((hr.set _ _).setPc _)
       · exact absurd hq (by rw [e]; decide))
    | (rename_i hq; rcases atomS_run h i.op (d.h.reg i.rs1) (d.h.reg i.rs2) with ⟨e, hr⟩ | ⟨e, hr⟩
       · exact absurd e hq
       · exact hr)
    | (rename_i hq; rcases callS_run h ho with ⟨e, hr⟩ | ⟨e, hr⟩
       · exact Run.fin (hr.setPc _)
       · exact absurd hq (by rw [e]; decide))
    | (rename_i hq; rcases callS_run h ho with ⟨e, hr⟩ | ⟨e, hr⟩
       · exact absurd e hq
       · exact hr)
theorem goS_fin (h : Hart) (l : List Int) (hok : h.ok = true) (hst : h.state = 0) : Fin0 ⟨h, l, [], 0, 0⟩ (goS ⟨h, l, [], 0, 0⟩) := by
  have hr : Run l.length ⟨h, l, [], 0, 0⟩ := ⟨hok, hst, rfl, by simp⟩
  have hc := fetchS_c l h.pc
  unfold goS
  dsimp only
  split
  · exact doS_fin (d := CoreD.none ⟨h, l, [], 0, 0⟩) hr rfl _
  · exact Run.trap (d := CoreD.none ⟨h, l, [], 0, 0⟩) hr _ (by omega)
theorem stepD_fin (h : Hart) (l : List Int) (hs : stepOk h l = true) :
    (stepD h l).h.ok = true ∧ (stepD h l).m.length = l.length ∧ (stepD h l).h.regs.getD 0 0 = 0 ∧ (stepD h l).out.length ≤ 1 ∧
      (¬ (stepD h l).h.state = 0 → { (stepD h l).h with state := h.state, cause := h.cause } = h ∧ (stepD h l).m = l ∧ (stepD h l).out = []) := by
  unfold stepD
  rw [if_pos hs]
  unfold stepOk at hs
  simp only [Bool.and_eq_true, beq_iff_eq, decide_eq_true_eq] at hs
  have h1 := goS_fin h l hs.1.1 hs.1.2
  refine ⟨h1.ok, h1.ml, ?_, h1.ol, h1.no⟩
  have h2 := h1.ok
  unfold Hart.ok at h2
  simp only [Bool.and_eq_true, beq_iff_eq] at h2
  exact h2.1.1
end Go.Proofs.Ytlfnddmncbkjaaa.Fb

/- Harts that take turns, as data. No program in sight. -/
namespace Go.Proofs.Ytlfnddmncbkjaaa.Fb
set_option linter.unusedVariables false
set_option linter.unusedSimpArgs false
open Go.RowKit

def lose (fr tw : Int) (h : Hart) : Hart := if (h.held && decide (fr < (h.heldAt + 4) % 4294967296) && decide (h.heldAt < tw)) = true then { h with held := false, heldAt := 0 } else h
/-- the first n harts, but k, lose what they had reserved -/
def loseTo (k : Nat) (fr tw : Int) (n : Nat) (hs : List Hart) : List Hart := hs.mapIdx fun j h => if j < n ∧ j ≠ k then lose fr tw h else h
theorem loseTo_zero (k : Nat) (fr tw : Int) (hs : List Hart) : loseTo k fr tw 0 hs = hs := by
  unfold loseTo
  apply List.ext_getElem
  · simp
  · intro i h1 h2; simp
theorem loseTo_len (k : Nat) (fr tw : Int) (n : Nat) (hs : List Hart) : (loseTo k fr tw n hs).length = hs.length := by simp [loseTo]
theorem loseTo_get (k : Nat) (fr tw : Int) (n : Nat) (hs : List Hart) (i : Nat) (h : i < hs.length) : (loseTo k fr tw n hs)[i]'(by rw [loseTo_len]; exact h) = if i < n ∧ i ≠ k then lose fr tw hs[i] else hs[i] := by simp [loseTo]
theorem loseTo_self (k : Nat) (fr tw : Int) (hs : List Hart) : loseTo k fr tw (k + 1) hs = loseTo k fr tw k hs := by
  apply List.ext_getElem
  · simp [loseTo_len]
  · intro i h1 h2
    rw [loseTo_len] at h1
    rw [loseTo_get _ _ _ _ _ _ h1, loseTo_get _ _ _ _ _ _ h1]
    by_cases e : i = k
    · subst e; simp
    · simp only [show (i < k + 1) = (i < k) from propext ⟨fun h => by omega, fun h => by omega⟩]
theorem loseTo_succ {k n : Nat} (fr tw : Int) (hs : List Hart) (hn : n < hs.length) (hk : n ≠ k) : loseTo k fr tw (n + 1) hs = (loseTo k fr tw n hs).set n (lose fr tw hs[n]) := by
  apply List.ext_getElem
  · simp [loseTo_len]
  · intro i h1 h2
    rw [loseTo_len] at h1
    rw [loseTo_get _ _ _ _ _ _ h1, List.getElem_set]
    by_cases e : n = i
    · subst e; rw [if_pos rfl, if_pos ⟨by omega, hk⟩]
    · rw [if_neg e, loseTo_get _ _ _ _ _ _ h1]
      simp only [show (i < n + 1) = (i < n) from propext ⟨fun h => by omega, fun h => by omega⟩]
theorem loseTo_keep {k n : Nat} (fr tw : Int) (hs : List Hart) (hn : n < hs.length) (hl : lose fr tw hs[n] = hs[n]) : loseTo k fr tw (n + 1) hs = loseTo k fr tw n hs := by
  by_cases hk : n = k
  · subst hk; exact loseTo_self _ _ _ _
  · rw [loseTo_succ fr tw hs hn hk, hl]
    apply List.ext_getElem
    · simp
    · intro i h1 h2
      rw [List.getElem_set]
      split
      · rename_i e; subst e; rw [loseTo_get _ _ _ _ _ _ hn, if_neg (by omega)]
      · rfl
theorem loseTo_at {k n : Nat} (fr tw : Int) (hs : List Hart) (hn : n < hs.length) : (loseTo k fr tw n hs)[n]'(by rw [loseTo_len]; exact hn) = hs[n] := by
  rw [loseTo_get _ _ _ _ _ _ hn, if_neg (by omega)]
theorem loseTo_all {k n : Nat} (fr tw : Int) (hs : List Hart) (hn : hs.length ≤ n) : loseTo k fr tw n hs = loseTo k fr tw hs.length hs := by
  apply List.ext_getElem
  · simp [loseTo_len]
  · intro i h1 h2
    rw [loseTo_len] at h1
    rw [loseTo_get _ _ _ _ _ _ h1, loseTo_get _ _ _ _ _ _ h1]
    simp only [show (i < n) = (i < hs.length) from propext ⟨fun h => by omega, fun h => by omega⟩]

/-- a board at work -/
structure St where
  harts : List Hart
  mem : List Int
  out : List Int
  steps : Nat
def St.hart (s : St) (k : Nat) : Hart := s.harts.getD k hart0
/-- one step of hart k -/
def goM (k : Nat) (s : St) : St :=
  let d := goS (⟨s.hart k, s.mem, [], 0, 0⟩ : CoreD)
  ⟨loseTo k d.fr d.tw s.harts.length (s.harts.set k d.h), d.m, s.out ++ d.out, s.steps + 1⟩
/-- a pick: up to n steps -/
def pickM (k : Nat) : Nat → St → St
  | 0, s => s
  | n + 1, s => if (s.hart k).state = 0 then pickM k n (goM k s) else s
def playM : List (Int × Int) → St → St
  | [], s => s
  | p :: r, s => playM r (pickM p.1.toNat p.2.toNat s)
def startM (m : Mach) : St := ⟨m.harts, m.mem, [], 0⟩
/-- what a run shows -/
def runM (m : Mach) (l : List (Int × Int)) : St := if wrong m l = 0 then playM l (startM m) else ⟨[], [], [], 0⟩

/-- what came out ahead, laid ahead -/
def CoreD.pre (o : List Int) (d : CoreD) : CoreD := { d with out := o ++ d.out }
theorem pre_ite {c : Prop} [Decidable c] (o : List Int) (x y : CoreD) : (if c then x else y).pre o = if c then x.pre o else y.pre o := by split <;> rfl
theorem pre_put (o : List Int) (d : CoreD) (op a x : Int) : (d.pre o).put op a x = (d.put op a x).pre o := by
  unfold CoreD.put CoreD.pre
  dsimp only
  split <;> rfl
theorem pre_atom (o : List Int) (d : CoreD) (op a b : Int) : atomS (d.pre o) op a b = ((atomS d op a b).1.pre o, (atomS d op a b).2) := by
  unfold atomS
  simp only [pre_put]
  show (if mLoadOk d.m 13 a = true then _ else _) = _
  split
  · split
    · rfl
    · split
      · show (if (d.h.held && d.h.heldAt == a) = true then _ else _) = _
        split <;> rfl
      · rfl
  · rfl
theorem pre_call (o : List Int) (d : CoreD) : callS (d.pre o) = ((callS d).1.pre o, (callS d).2) := by
  unfold callS
  show (if d.h.reg 17 = 0 then _ else _) = _
  split
  · rfl
  · show (if d.h.reg 17 = 1 then _ else _) = _
    split
    · show (({ d with out := (o ++ d.out) ++ [d.h.reg 10] } : CoreD), true) = _
      rw [List.append_assoc]; rfl
    · rfl
theorem pre_do (o : List Int) (d : CoreD) (i : InsD) : doS i (d.pre o) = (doS i d).pre o := by
  unfold doS
  dsimp only
  simp only [pre_put, pre_atom, pre_call, pre_ite]
  rfl
theorem pre_go (o : List Int) (d : CoreD) : goS (d.pre o) = (goS d).pre o := by
  unfold goS
  show (if (fetchS d.m d.h.pc).2 = 0 then doS (fetchS d.m d.h.pc).1 (d.none.pre o) else (d.none.trap (fetchS d.m d.h.pc).2).pre o) = _
  rw [pre_do, pre_ite]
theorem goS_out (d : CoreD) : goS d = (goS (⟨d.h, d.m, [], 0, 0⟩ : CoreD)).pre d.out := by
  rw [← pre_go]
  show goS d = goS (⟨d.h, d.m, d.out ++ [], 0, 0⟩ : CoreD)
  rw [List.append_nil]
  rfl

structure St.Wf (s : St) : Prop where
  harts : ∀ h ∈ s.harts, h.Wf
  mem : Bytes s.mem
  mlen : s.mem.length ≤ 4096
  out : ∀ x ∈ s.out, U32 x
theorem hart0_wf : hart0.Wf := ⟨rfl, by intro x hx; have := List.eq_of_mem_replicate hx; subst this; exact ⟨by decide, by decide⟩, ⟨by decide, by decide⟩, ⟨by decide, by decide⟩, ⟨by decide, by decide⟩, ⟨by decide, by decide⟩⟩
theorem St.hart_at {s : St} {k : Nat} (h : k < s.harts.length) : s.hart k = s.harts[k] := by
  unfold St.hart; rw [List.getD, List.getElem?_eq_getElem h]; rfl
theorem St.Wf.hart {s : St} (h : s.Wf) (k : Nat) : (s.hart k).Wf := by
  by_cases hk : k < s.harts.length
  · rw [St.hart_at hk]; exact h.harts _ (List.getElem_mem hk)
  · unfold St.hart; rw [List.getD, List.getElem?_eq_none (by omega)]; exact hart0_wf
theorem St.Wf.core {s : St} (h : s.Wf) (k : Nat) : (⟨s.hart k, s.mem, [], 0, 0⟩ : CoreD).Wf :=
  ⟨h.hart k, h.mem, by simp, (⟨by decide, by decide⟩ : U32 0), (⟨by decide, by decide⟩ : U32 0), (by show s.mem.length ≤ _; have := h.mlen; omega), by simp⟩
theorem lose_wf {fr tw : Int} {h : Hart} (wf : h.Wf) : (lose fr tw h).Wf := by
  unfold lose
  split
  · exact ⟨wf.len, wf.regs, wf.pc, (⟨by decide, by decide⟩ : U32 0), wf.state, wf.cause⟩
  · exact wf
theorem lose_ok {fr tw : Int} {h : Hart} (ok : h.ok = true) : (lose fr tw h).ok = true := by
  unfold lose
  split
  · unfold Hart.ok at ok ⊢
    simp only [Bool.and_eq_true, Bool.or_eq_true, beq_iff_eq, decide_eq_true_eq] at ok ⊢
    exact ⟨⟨ok.1.1, .inr trivial⟩, ok.2⟩
  · exact ok
theorem mem_loseTo {k : Nat} {fr tw : Int} {n : Nat} {hs : List Hart} {P : Hart → Prop} (hp : ∀ h ∈ hs, P h) (hl : ∀ h, P h → P (lose fr tw h)) : ∀ h ∈ loseTo k fr tw n hs, P h := by
  intro h hh
  obtain ⟨i, hi, rfl⟩ := List.getElem_of_mem hh
  have hi' : i < hs.length := by rw [loseTo_len] at hi; exact hi
  rw [loseTo_get _ _ _ _ _ _ hi']
  split
  · exact hl _ (hp _ (List.getElem_mem hi'))
  · exact hp _ (List.getElem_mem hi')
theorem goS_mlen (d : CoreD) (i : InsD) : (doS i d).m.length = d.m.length := by
  unfold doS
  dsimp only
  have ha : (atomS d i.op (d.h.reg i.rs1) (d.h.reg i.rs2)).1.m.length = d.m.length := by
    unfold atomS
    repeat' (refine ite_ind (P := fun p : CoreD × Int × Bool => p.1.m.length = d.m.length) (fun _ => ?_) (fun _ => ?_))
    all_goals first | rfl | exact CoreD.put_mlen _ _ _ _
  have hc : (callS d).1.m = d.m := by
    unfold callS
    repeat' (refine ite_ind (P := fun p : CoreD × Bool => p.1.m = d.m) (fun _ => ?_) (fun _ => ?_))
    all_goals rfl
  repeat' (refine ite_ind (P := fun p : CoreD => p.m.length = d.m.length) (fun _ => ?_) (fun _ => ?_))
  all_goals first
    | rfl
    | exact CoreD.put_mlen _ _ _ _
    | exact ha
    | exact mStore_length _ _ _ _
    | (show (callS d).1.m.length = _; rw [hc])
theorem goS_ml (d : CoreD) : (goS d).m.length = d.m.length := by
  unfold goS
  split
  · exact goS_mlen _ _
  · rfl
theorem goM_len (k : Nat) (s : St) : (goM k s).harts.length = s.harts.length := by
  show (loseTo _ _ _ _ _).length = _
  rw [loseTo_len, List.length_set]
theorem goM_wf {k : Nat} {s : St} (wf : s.Wf) : (goM k s).Wf := by
  have h := goS_wf (wf.core k) (by simp)
  refine ⟨mem_loseTo (P := Hart.Wf) ?_ (fun _ => lose_wf), h.m, ?_, ?_⟩
  · intro x hx
    rcases List.mem_or_eq_of_mem_set hx with hx | rfl
    · exact wf.harts _ hx
    · exact h.h
  · show (goS _).m.length ≤ _
    rw [goS_ml]; exact wf.mlen
  · intro x hx
    rcases List.mem_append.1 hx with hx | hx
    · exact wf.out _ hx
    · exact h.out _ hx
theorem pickM_wf {k : Nat} : ∀ (n : Nat) {s : St}, s.Wf → (pickM k n s).Wf
  | 0, _, h => h
  | n + 1, s, h => by
    unfold pickM
    split
    · exact pickM_wf n (goM_wf h)
    · exact h
theorem pickM_len {k : Nat} : ∀ (n : Nat) (s : St), (pickM k n s).harts.length = s.harts.length
  | 0, _ => rfl
  | n + 1, s => by
    unfold pickM
    split
    · rw [pickM_len n, goM_len]
    · rfl
theorem playM_wf : ∀ (l : List (Int × Int)) {s : St}, s.Wf → (playM l s).Wf
  | [], _, h => h
  | _ :: r, _, h => playM_wf r (pickM_wf _ h)
theorem playM_len : ∀ (l : List (Int × Int)) (s : St), (playM l s).harts.length = s.harts.length
  | [], _ => rfl
  | _ :: r, _ => by unfold playM; rw [playM_len r, pickM_len]
theorem pickM_stop {k : Nat} {s : St} (h : ¬ (s.hart k).state = 0) (n : Nat) : pickM k n s = s := by
  cases n with
  | zero => rfl
  | succ n => unfold pickM; rw [if_neg h]
theorem wrong_parts {m : Mach} {l : List (Int × Int)} (h : wrong m l = 0) : m.mem.length ≤ 4096 ∧ 1 ≤ m.harts.length ∧ m.harts.length ≤ 4 ∧ (∀ x ∈ m.harts, x.ok = true) ∧ l.length ≤ 300 ∧ ∀ p ∈ l, 0 ≤ p.1 ∧ p.1 < m.harts.length ∧ 0 ≤ p.2 ∧ p.2 ≤ 400 := by
  unfold wrong at h
  split at h
  · cases h
  split at h
  · cases h
  split at h
  · cases h
  split at h
  · cases h
  rename_i h1 h2 h3 h4
  refine ⟨by omega, by omega, by omega, fun x hx => ?_, by omega, fun p hp => ?_⟩
  · cases e : x.ok with
    | true => rfl
    | false => exact absurd (List.any_eq_true.2 ⟨x, hx, by simp [e]⟩) h2
  · have : badPick m.harts.length p = false := by
      cases e : badPick m.harts.length p with
      | false => rfl
      | true => exact absurd (List.any_eq_true.2 ⟨p, hp, e⟩) h4
    unfold badPick at this
    simp only [Bool.or_eq_false_iff, decide_eq_false_iff_not] at this
    omega
end Go.Proofs.Ytlfnddmncbkjaaa.Fb

/- A board at work, in memory. No program in sight. -/
namespace Go.Proofs.Ytlfnddmncbkjaaa.Fb
set_option linter.unusedVariables false
set_option linter.unusedSimpArgs false
open Go.RowKit
theorem owns_block {B : Nat} {e : TypeId} {k : Nat} {v : Value} {n : Nat} {xs : List Value} {w w' : World} (h : w.ownsRow B e k v n xs) (hb : ∀ g, v.ownBlock = some g → w'.heap[g]? = w.heap[g]?) : w'.ownsRow B e k v n xs := by
  obtain ⟨h1, h2⟩ := h
  refine ⟨h1, ?_⟩
  rcases h2 with ⟨rfl, rfl⟩ | ⟨g, cap, cur, rfl, hB, hh, h3⟩
  · exact .inl ⟨rfl, rfl⟩
  · exact .inr ⟨g, cap, cur, rfl, hB, (hb g rfl).trans hh, h3⟩
theorem cell_block {w w' : World} {b : Nat} (h : w'.heap[b]? = w.heap[b]?) (o : Nat) : w'.cell? ⟨b, o, none⟩ = w.cell? ⟨b, o, none⟩ := World.cell?_of_block (a := ⟨b, o, none⟩) h
theorem frozen_block {w w' : World} {b : Nat} (h : w'.heap[b]? = w.heap[b]?) (o : Nat) : w'.frozen? ⟨b, o, none⟩ = w.frozen? ⟨b, o, none⟩ := World.frozen?_of_block (a := ⟨b, o, none⟩) h
theorem sl_block {w w' : World} {v : Value} {s n : Nat} {xs : List Value} (h : Sl w v s n xs) (hb : ∀ g, v.ownBlock = some g → w'.heap[g]? = w.heap[g]?) : Sl w' v s n xs := by
  obtain ⟨h1, ao, cap, h2, h3, h4, h5, h6⟩ := h
  refine ⟨h1, ao, cap, h2, h3, h4, h5, fun a ha hx => ⟨(h6 a ha hx).1, ?_⟩⟩
  obtain ⟨b, off, sp⟩ := a
  have h7 := h6 _ ha hx
  have hs := h7.1
  simp only at hs
  subst hs
  intro j hj
  exact (cell_block (hb b (by rw [h2, ha]; rfl)) _).trans (h7.2 j hj)
theorem At.flat {α : Type} {w : World} {b : Nat} (f : α → List Value) (s : Nat) : ∀ {l : List α} {off : Nat}, (∀ x ∈ l, (f x).length = s) → (∀ i (h : i < l.length), At w b (off + i * s) (f l[i])) → At w b off (l.flatMap f)
  | [], _, _, _ => fun j hj => by simp at hj
  | x :: r, off, hf, h => by
    rw [List.flatMap_cons]
    have hx := hf x (by simp)
    have h0 := h 0 (by simp)
    rw [Nat.zero_mul, Nat.add_zero] at h0
    refine At.append h0 ?_
    rw [hx]
    refine At.flat f s (fun y hy => hf y (by simp [hy])) (fun i hi => ?_)
    have := h (i + 1) (by simp; omega)
    rw [Nat.add_mul, Nat.one_mul] at this
    rw [show off + s + i * s = off + (i * s + s) by omega]
    exact this
/-- one hart of a row is another: the rest is as it was -/
theorem at_harts_set {w w' : World} {b : Nat} {hs : List Hart} {k : Nat} {h' : Hart} (ha : At w b 0 (hs.flatMap hlist)) (hl : ∀ h ∈ hs, (hlist h).length = 37) (hl' : (hlist h').length = 37)
    (hk : At w' b (k * 37) (hlist h')) (hc : ∀ o, (o < k * 37 ∨ k * 37 + 37 ≤ o) → w'.cell? ⟨b, o, none⟩ = w.cell? ⟨b, o, none⟩) : At w' b 0 ((hs.set k h').flatMap hlist) := by
  refine At.flat hlist 37 (fun x hx => ?_) (fun i hi => ?_)
  · rcases List.mem_or_eq_of_mem_set hx with hx | rfl
    · exact hl x hx
    · exact hl'
  · rw [List.length_set] at hi
    rw [List.getElem_set]
    split
    · rename_i e; subst e; rw [Nat.zero_add]; exact hk
    · rename_i e
      have h1 := At.elem hlist 37 hl ha i hi
      intro j hj
      rw [hl _ (List.getElem_mem hi)] at hj
      rw [hc _ (by omega)]
      exact h1 j (by rw [hl _ (List.getElem_mem hi)]; exact hj)
theorem at_hart {w : World} {b : Nat} {hs : List Hart} {k : Nat} (ha : At w b 0 (hs.flatMap hlist)) (hl : ∀ h ∈ hs, (hlist h).length = 37) (hk : k < hs.length) : At w b (k * 37) (hlist hs[k]) := by
  have := At.elem hlist 37 hl ha k hk
  rw [Nat.zero_add] at this
  exact this
/-- the board at bp: its harts at bh, its bytes vm, what came out vo -/
structure Bd (bp bh hc : Nat) (vm vo : Value) (ty : TypeId) (w : World) (s : St) : Prop where
  b1 : bh < bp
  c0 : w.cell? ⟨bp, 0, none⟩ = some vm
  c1 : w.cell? ⟨bp, 1, none⟩ = some (.slice (some ⟨bh, 0, none⟩) s.harts.length hc)
  c2 : w.cell? ⟨bp, 2, none⟩ = some vo
  c3 : w.cell? ⟨bp, 3, none⟩ = some (.int .i64 s.steps)
  frz : ∀ o, w.frozen? ⟨bp, o, none⟩ = false
  harts : At w bh 0 (s.harts.flatMap hlist)
  hlt : bh < w.heap.size
  hfz : ∀ o, w.frozen? ⟨bh, o, none⟩ = false
  bytes : Ints .u8 w vm s.mem
  mfz : ∀ b off n c, vm = .slice (some ⟨b, off, none⟩) n c → b < w.heap.size ∧ ∀ o, w.frozen? ⟨b, o, none⟩ = false
  mlt : ∀ k, vm.ownBlock = some k → k < bp ∧ k ≠ bh
  own : w.ownsRow (bp + 1) ty 1 vo s.out.length (s.out.map (Value.int .u32))
  hcap : s.harts.length ≤ hc ∧ hc ≤ maxLen
/-- a board whose hart k is at work, at cp: o has come out of it, o0 ahead of it -/
structure Wk (bp bh hc cp k : Nat) (vm vo : Value) (ty : TypeId) (o0 o : List Int) (fr tw : Int) (w : World) (s : St) : Prop where
  core : CoreAt cp bh (k * 37) vm ty w ⟨s.hart k, s.mem, o, fr, tw⟩
  b1 : bh < bp
  b2 : bp < cp
  c0 : w.cell? ⟨bp, 0, none⟩ = some vm
  c1 : w.cell? ⟨bp, 1, none⟩ = some (.slice (some ⟨bh, 0, none⟩) s.harts.length hc)
  c2 : w.cell? ⟨bp, 2, none⟩ = some vo
  c3 : w.cell? ⟨bp, 3, none⟩ = some (.int .i64 s.steps)
  frz : ∀ o, w.frozen? ⟨bp, o, none⟩ = false
  harts : At w bh 0 (s.harts.flatMap hlist)
  mlt : ∀ k, vm.ownBlock = some k → k < bp ∧ k ≠ bh
  own : w.ownsRow (bp + 1) ty 1 vo o0.length (o0.map (Value.int .u32))
  vlt : ∀ g, vo.ownBlock = some g → g < cp
  kl : k < s.harts.length
  hcap : s.harts.length ≤ hc ∧ hc ≤ maxLen
/-- a board begins: two rows of its own -/
theorem Bd.begin {w : World} {m : Mach} {vm vh : Value} {B1 B2 : Nat} {t1 t2 tB ty : TypeId} (h1 : w.ownsRow B1 t1 1 vm m.mem.length (m.mem.map (Value.int .u8))) (h2 : w.ownsRow B2 t2 37 vh m.harts.length (m.harts.flatMap hlist))
    (hne : ∀ k, vm.ownBlock = some k → vh.ownBlock ≠ some k) (hl : 1 ≤ m.harts.length) :
    ∃ bh hc, vh = .slice (some ⟨bh, 0, none⟩) m.harts.length hc ∧ B2 ≤ bh ∧ Bd w.heap.size bh hc vm (.slice none 0 0) ty (w.alloc (.cells #[vm, vh, .slice none 0 0, .int .i64 0] tB)) (startM m) := by
  rcases owns_open h2 with ⟨_, e, _⟩ | ⟨g, cap, rfl, hB, hg, hn, hm, hat, hf⟩
  · omega
  have hb : Below w.heap.size w (w.alloc (.cells #[vm, .slice (some ⟨g, 0, none⟩) m.harts.length cap, .slice none 0 0, .int .i64 0] tB)) := Below.alloc (Below.refl _ _) (Nat.le_refl _) _
  refine ⟨g, cap, rfl, hB, hg, by simp, by simp [startM], by simp, by simp [startM], fun o => by unfold World.frozen?; rw [heap_alloc_new]; simp, hat.below hb, Nat.lt_of_lt_of_le hg hb.size, fun o => (hb.frozen (p := ⟨g, o, none⟩) hg).trans (hf o), (owns_sl h1).below hb, fun b off n c e => ?_, fun k e => ?_, World.ownsRow_nil _ _ _ _, hn, hm⟩
  · rcases owns_open h1 with ⟨rfl, _⟩ | ⟨g1, c1, rfl, _, hg1, _, _, _, hf1⟩
    · cases e
    · cases e
      exact ⟨Nat.lt_of_lt_of_le hg1 hb.size, fun o => (hb.frozen (p := ⟨b, o, none⟩) hg1).trans (hf1 o)⟩
  · exact ⟨(h1.lt k e).2, fun e2 => hne k e (by rw [e2]; rfl)⟩
section
variable {bp bh hc cp k : Nat} {vm vo : Value} {ty : TypeId} {o0 o : List Int} {fr tw : Int} {w w' : World} {s : St}
theorem CoreAt.move {hb ho : Nat} {d : CoreD} {h' : Hart} (h : CoreAt cp hb ho vm ty w d) (hcp : w'.heap[cp]? = w.heap[cp]?) (hvm : ∀ k, vm.ownBlock = some k → w'.heap[k]? = w.heap[k]?) (hrow : ∀ k, cp < k → k < w.heap.size → w'.heap[k]? = w.heap[k]?)
    (hsz : w.heap.size ≤ w'.heap.size) (hat : At w' hb ho (hlist h')) (hfz : ∀ o, w'.frozen? ⟨hb, o, none⟩ = false) : CoreAt cp hb ho vm ty w' { d with h := h' } := by
  refine ⟨h.hbl, (cell_block hcp _).trans h.ptr, (cell_block hcp _).trans h.mem, (cell_block hcp _).trans h.fr, (cell_block hcp _).trans h.tw, fun o => (frozen_block hcp o).trans (h.frz o), hat, hfz, sl_block h.bytes hvm, fun b off n c e => ?_, ?_, h.mlt⟩
  · obtain ⟨x1, x2, x3, x4⟩ := h.mfz b off n c e
    exact ⟨x1, x2, by omega, fun o => (frozen_block (hvm b (by rw [e]; rfl)) o).trans (x4 o)⟩
  · obtain ⟨vo', y1, y2⟩ := h.row
    refine ⟨vo', (cell_block hcp _).trans y1, owns_block y2 (fun g hg => ?_)⟩
    have := y2.lt g hg
    exact hrow g (by omega) this.2
theorem Bd.lt (h : Bd bp bh hc vm vo ty w s) : bp < w.heap.size := lt_of_cell h.c0
theorem Bd.below (h : Bd bp bh hc vm vo ty w s) (hb : Below w.heap.size w w') : Bd bp bh hc vm vo ty w' s := by
  have hl := h.lt
  have e := hb.block bp hl
  have eh := hb.block bh h.hlt
  refine ⟨h.b1, (cell_block e _).trans h.c0, (cell_block e _).trans h.c1, (cell_block e _).trans h.c2, (cell_block e _).trans h.c3, fun o => (frozen_block e o).trans (h.frz o), h.harts.below hb, Nat.lt_of_lt_of_le h.hlt hb.size, fun o => (frozen_block eh o).trans (h.hfz o), h.bytes.below hb, fun b off n c e => ?_, h.mlt, owns_below h.own hb, h.hcap⟩
  obtain ⟨x1, x2⟩ := h.mfz b off n c e
  exact ⟨Nat.lt_of_lt_of_le x1 hb.size, fun o => (frozen_block (hb.block b x1) o).trans (x2 o)⟩
/-- a hart goes to work -/
theorem Bd.start {tC : TypeId} (h : Bd bp bh hc vm vo ty w s) (wf : s.Wf) (hk : k < s.harts.length) :
    Wk bp bh hc w.heap.size k vm vo ty s.out [] 0 0 (w.alloc (.cells #[.pointer (some ⟨bh, k * 37, none⟩), vm, .slice none 0 0, .int .u32 0, .int .u32 0] tC)) s := by
  have hB : Below w.heap.size w (w.alloc (.cells #[.pointer (some ⟨bh, k * 37, none⟩), vm, .slice none 0 0, .int .u32 0, .int .u32 0] tC)) := Below.alloc (Below.refl _ _) (Nat.le_refl _) _
  have h2 := h.below hB
  have hat := at_hart h.harts (fun x hx => hlist_length (wf.harts x hx)) hk
  rw [← St.hart_at hk] at hat
  refine ⟨CoreAt.init hat h.hfz h.hlt h.bytes (fun b off n c e => ⟨(h.mlt b (by rw [e]; rfl)).2, h.mfz b off n c e⟩) (fun k e => Nat.lt_trans (h.mlt k e).1 h.lt), h.b1, h.lt, h2.c0, h2.c1, h2.c2, h2.c3, h2.frz, h2.harts, h.mlt, h2.own, fun g hg => (h.own.lt g hg).2, hk, h.hcap⟩
theorem Wk.clt (h : Wk bp bh hc cp k vm vo ty o0 o fr tw w s) : cp < w.heap.size := h.core.lt
theorem Wk.below (h : Wk bp bh hc cp k vm vo ty o0 o fr tw w s) (hb : Below w.heap.size w w') : Wk bp bh hc cp k vm vo ty o0 o fr tw w' s := by
  have e := hb.block bp (Nat.lt_trans h.b2 h.clt)
  exact ⟨h.core.below hb, h.b1, h.b2, (cell_block e _).trans h.c0, (cell_block e _).trans h.c1, (cell_block e _).trans h.c2, (cell_block e _).trans h.c3, fun o => (frozen_block e o).trans (h.frz o), h.harts.below hb, h.mlt, owns_below h.own hb, h.vlt, h.kl, h.hcap⟩
theorem Wk.drewN (h : Wk bp bh hc cp k vm vo ty o0 o fr tw w s) (n : Nat) : Wk bp bh hc cp k vm vo ty o0 o fr tw (w.drewN n) s := h.below (below_drewN (Below.refl _ _) _)
/-- the steps are told -/
theorem Wk.tick (h : Wk bp bh hc cp k vm vo ty o0 o fr tw w s) (n : Nat) : Wk bp bh hc cp k vm vo ty o0 o fr tw (w.setCell ⟨bp, 3, none⟩ (.int .i64 n)) { s with steps := n } := by
  have b1 := h.b1
  have b2 := h.b2
  have hbk : ∀ j, j ≠ bp → (w.setCell ⟨bp, 3, none⟩ (.int .i64 n)).heap[j]? = w.heap[j]? := fun j hj => Below.heap_setCell _ _ _ _ (by show j ≠ bp; exact hj)
  have hc : ∀ j, j ≠ 3 → (w.setCell ⟨bp, 3, none⟩ (.int .i64 n)).cell? ⟨bp, j, none⟩ = w.cell? ⟨bp, j, none⟩ := fun j hj => World.cell?_setCell_other _ _ _ _ (by intro e; injection e with _ e2; omega)
  refine ⟨h.core.move (h' := s.hart k) (hbk cp (by omega)) (fun g hg => hbk g (by have := h.mlt g hg; omega)) (fun g hg _ => hbk g (by omega)) (by simp) (h.core.hart.set_other (by show bp ≠ bh; omega) _) (fun o => (World.frozen?_setCell _ _ _ _).trans (h.core.hfz o)), h.b1, h.b2, (hc 0 (by omega)).trans h.c0, (hc 1 (by omega)).trans h.c1, (hc 2 (by omega)).trans h.c2, World.cell?_setCell_same _ _ _ h.c3, fun o => (World.frozen?_setCell _ _ _ _).trans (h.frz o), h.harts.set_other (by show bp ≠ bh; omega) _, h.mlt, owns_block h.own (fun g hg => hbk g (by have := h.own.lt g hg; omega)), h.vlt, h.kl, h.hcap⟩
/-- the hart at work does a step -/
theorem Wk.go {d : CoreD} (h : Wk bp bh hc cp k vm vo ty o0 o fr tw w s) (wf : s.Wf) (hd : d.h.Wf) (hc' : CoreAt cp bh (k * 37) vm ty w' d) (hg : Cgo cp bh (k * 37) vm ty w w') :
    Wk bp bh hc cp k vm vo ty o0 d.out d.fr d.tw w' ⟨s.harts.set k d.h, d.m, s.out, s.steps⟩ := by
  have b1 := h.b1
  have b2 := h.b2
  have hl := h.clt
  have e := hg.block bp (by omega) (by omega) (fun e => by have := h.mlt _ e; omega) (.inl h.b2)
  have ek : (⟨s.harts.set k d.h, d.m, s.out, s.steps⟩ : St).hart k = d.h := by
    rw [St.hart_at (by show k < (s.harts.set k d.h).length; rw [List.length_set]; exact h.kl)]
    show (s.harts.set k d.h)[k]'_ = _
    rw [List.getElem_set, if_pos rfl]
  refine ⟨by rw [ek]; exact hc', h.b1, h.b2, (cell_block e _).trans h.c0, (cell_block e _).trans (by rw [h.c1]; simp), (cell_block e _).trans h.c2, (cell_block e _).trans h.c3, fun o => (frozen_block e o).trans (h.frz o),
    at_harts_set h.harts (fun x hx => hlist_length (wf.harts x hx)) (hlist_length hd) hc'.hart hg.cell, h.mlt, owns_block h.own (fun g hg' => ?_), h.vlt, by show k < (s.harts.set k d.h).length; rw [List.length_set]; exact h.kl, by show (s.harts.set k d.h).length ≤ _ ∧ _; rw [List.length_set]; exact h.hcap⟩
  have := h.own.lt g hg'
  exact hg.block g this.2 (by omega) (fun e => by have := h.mlt _ e; omega) (.inl (h.vlt g hg'))
/-- others have lost what they had reserved -/
theorem Wk.lost {hs : List Hart} (h : Wk bp bh hc cp k vm vo ty o0 o fr tw w s) (wf : ∀ h ∈ hs, h.Wf) (hl : hs.length = s.harts.length) (hk : ∀ h' : k < hs.length, hs[k] = s.hart k) (ha : At w' bh 0 (hs.flatMap hlist)) (hg : Chg (fun p => p.block = bh) w w') :
    Wk bp bh hc cp k vm vo ty o0 o fr tw w' { s with harts := hs } := by
  have b1 := h.b1
  have b2 := h.b2
  have hlt := h.clt
  have kl : k < hs.length := by rw [hl]; exact h.kl
  have hbk : ∀ j, j < w.heap.size → j ≠ bh → w'.heap[j]? = w.heap[j]? := fun j hj hn => hg.block j hj (fun o e => hn e)
  have e := hbk bp (by omega) (by omega)
  have ek : (⟨hs, s.mem, s.out, s.steps⟩ : St).hart k = s.hart k := (St.hart_at kl).trans (hk kl)
  have hat := at_hart ha (fun x hx => hlist_length (wf x hx)) kl
  rw [hk kl] at hat
  refine ⟨by
      show CoreAt cp bh (k * 37) vm ty w' ⟨(⟨hs, s.mem, s.out, s.steps⟩ : St).hart k, s.mem, o, fr, tw⟩
      rw [ek]
      exact h.core.move (h' := s.hart k) (hbk cp hlt (by omega)) (fun g hg => hbk g (by have := h.mlt g hg; omega) (h.mlt g hg).2) (fun g hg hg2 => hbk g hg2 (by omega)) hg.size hat (fun o => (hg.frozen ⟨bh, o, none⟩ (by show bh < _; omega)).trans (h.core.hfz o)), h.b1, h.b2, (cell_block e _).trans h.c0, (cell_block e _).trans (by rw [h.c1, ← hl]), (cell_block e _).trans h.c2, (cell_block e _).trans h.c3, fun o => (frozen_block e o).trans (h.frz o),
    ha, h.mlt, owns_block h.own (fun g hg' => ?_), h.vlt, kl, by rw [show ({ s with harts := hs } : St).harts.length = s.harts.length from hl]; exact h.hcap⟩
  have := h.own.lt g hg'
  exact hbk g this.2 (by omega)
/-- what came out is laid behind what had come out -/
theorem Wk.stop {v' : Value} {w1 : World} (h : Wk bp bh hc cp k vm vo ty o0 o fr tw w s) (hown : w1.ownsRow (bp + 1) ty 1 v' (o0.length + o.length) (o0.map (Value.int .u32) ++ o.map (Value.int .u32))) (hg : w.grownBy w1 vo.ownBlock) :
    Bd bp bh hc vm v' ty (w1.setCell ⟨bp, 2, none⟩ v') { s with out := o0 ++ o } := by
  have b1 := h.b1
  have b2 := h.b2
  have hlt := h.clt
  have hfar : ∀ j, j < w.heap.size → j ≤ bp → w1.heap[j]? = w.heap[j]? := fun j hj hn => hg.block j hj (fun e => by have := h.own.lt j e.symm; omega)
  have hbk : ∀ j, j < bp → (w1.setCell ⟨bp, 2, none⟩ v').heap[j]? = w.heap[j]? := fun j hj => (Below.heap_setCell _ _ _ _ (by show j ≠ bp; omega)).trans (hfar j (by omega) (by omega))
  have e := hfar bp (by omega) (Nat.le_refl _)
  have hc : ∀ j, j ≠ 2 → (w1.setCell ⟨bp, 2, none⟩ v').cell? ⟨bp, j, none⟩ = w.cell? ⟨bp, j, none⟩ := fun j hj => (World.cell?_setCell_other _ _ _ _ (by intro e; injection e with _ e2; omega)).trans (cell_block e _)
  have hs := hg.size
  refine ⟨h.b1, (hc 0 (by omega)).trans h.c0, (hc 1 (by omega)).trans h.c1, World.cell?_setCell_same _ _ _ ((cell_block e 2).trans h.c2), (hc 3 (by omega)).trans h.c3, fun o => (World.frozen?_setCell _ _ _ _).trans ((frozen_block e o).trans (h.frz o)), fun j hj => (cell_block (hbk bh b1) _).trans (h.harts j hj), by simp; omega, fun o => (frozen_block (hbk bh b1) o).trans (h.core.hfz o), sl_block h.core.bytes (fun g hg' => hbk g (h.mlt g hg').1), fun b off n c e => ?_, h.mlt, ?_, h.hcap⟩
  · have hb := (h.mlt b (by rw [e]; rfl)).1
    exact ⟨by simp; omega, fun o => (frozen_block (hbk b hb) o).trans ((h.core.mfz b off n c e).2.2.2 o)⟩
  · have := ownsRow_setCell_below hown (a := ⟨bp, 2, none⟩) (Nat.lt_succ_self bp) v'
    simpa using this
end
end Go.Proofs.Ytlfnddmncbkjaaa.Fb

/- Runs behind runs, as data. No program in sight. -/
namespace Go.Proofs.Ytlfnddmncbkjaaa.Fb
set_option linter.unusedVariables false
set_option linter.unusedSimpArgs false
open Go.RowKit

/-- a board whose harts may be, and that has put out no more than it has done -/
structure St.Good (s : St) : Prop where
  wf : s.Wf
  ok : ∀ h ∈ s.harts, h.ok = true
  ol : s.out.length ≤ s.steps
theorem St.Good.hart {s : St} (h : s.Good) (k : Nat) : (s.hart k).ok = true := by
  by_cases hk : k < s.harts.length
  · rw [St.hart_at hk]; exact h.ok _ (List.getElem_mem hk)
  · unfold St.hart; rw [List.getD, List.getElem?_eq_none (by omega)]; rfl
theorem goM_ml (k : Nat) (s : St) : (goM k s).mem.length = s.mem.length := by
  show (goS _).m.length = _
  rw [goS_ml]
theorem goM_good {k : Nat} {s : St} (h : s.Good) (hs : (s.hart k).state = 0) : (goM k s).Good := by
  have hf := goS_fin (s.hart k) s.mem (h.hart k) hs
  refine ⟨goM_wf h.wf, mem_loseTo (P := fun h => h.ok = true) ?_ (fun _ => lose_ok), ?_⟩
  · intro x hx
    rcases List.mem_or_eq_of_mem_set hx with hx | rfl
    · exact h.ok _ hx
    · exact hf.ok
  · show (s.out ++ (goS _).out).length ≤ s.steps + 1
    have h1 := hf.ol
    have h2 := h.ol
    rw [List.length_append]
    omega
theorem pickM_good {k : Nat} : ∀ (n : Nat) {s : St}, s.Good → (pickM k n s).Good
  | 0, _, h => h
  | n + 1, s, h => by
    unfold pickM
    split
    · rename_i hs; exact pickM_good n (goM_good h hs)
    · exact h
theorem playM_good : ∀ (l : List (Int × Int)) {s : St}, s.Good → (playM l s).Good
  | [], _, h => h
  | _ :: r, _, h => playM_good r (pickM_good _ h)
theorem pickM_ml {k : Nat} : ∀ (n : Nat) (s : St), (pickM k n s).mem.length = s.mem.length
  | 0, _ => rfl
  | n + 1, s => by
    unfold pickM
    split
    · rw [pickM_ml n, goM_ml]
    · rfl
theorem playM_ml : ∀ (l : List (Int × Int)) (s : St), (playM l s).mem.length = s.mem.length
  | [], _ => rfl
  | _ :: r, s => by unfold playM; rw [playM_ml r, pickM_ml]
theorem pickM_steps {k : Nat} : ∀ (n : Nat) (s : St), (pickM k n s).steps ≤ s.steps + n
  | 0, _ => Nat.le_refl _
  | n + 1, s => by
    unfold pickM
    split
    · have := pickM_steps (k := k) n (goM k s)
      have h2 : (goM k s).steps = s.steps + 1 := rfl
      omega
    · omega
theorem playM_steps : ∀ (l : List (Int × Int)) (s : St), (∀ p ∈ l, p.2 ≤ 400) → (playM l s).steps ≤ s.steps + 400 * l.length
  | [], _, _ => Nat.le_refl _
  | p :: r, s, h => by
    unfold playM
    have h1 := playM_steps r (pickM p.1.toNat p.2.toNat s) (fun q hq => h q (by simp [hq]))
    have h2 := pickM_steps (k := p.1.toNat) p.2.toNat s
    have h3 := h p (by simp)
    rw [List.length_cons]
    omega
theorem startM_good {m : Mach} {l : List (Int × Int)} (wf : m.Wf) (h : wrong m l = 0) : (startM m).Good := by
  obtain ⟨h1, h2, h3, h4, _⟩ := wrong_parts h
  exact ⟨⟨wf.harts, wf.mem, h1, by intro x hx; cases hx⟩, h4, Nat.le_refl _⟩
theorem wrong_of {m : Mach} {l : List (Int × Int)} (h1 : m.mem.length ≤ 4096) (h2 : 1 ≤ m.harts.length) (h3 : m.harts.length ≤ 4) (h4 : ∀ x ∈ m.harts, x.ok = true) (h5 : l.length ≤ 300) (h6 : ∀ p ∈ l, 0 ≤ p.1 ∧ p.1 < m.harts.length ∧ 0 ≤ p.2 ∧ p.2 ≤ 400) : wrong m l = 0 := by
  unfold wrong
  rw [if_neg (by omega), if_neg, if_neg (by omega), if_neg]
  · rw [List.any_eq_true]
    rintro ⟨p, hp, hb⟩
    have := h6 p hp
    unfold badPick at hb
    simp at hb
    omega
  · rw [List.any_eq_true]
    rintro ⟨x, hx, hb⟩
    rw [h4 x hx] at hb
    cases hb
/-- the machine that a board shows -/
def St.mach (s : St) : Mach := ⟨s.mem, s.harts⟩
theorem play_mach {m : Mach} {a b : List (Int × Int)} (wf : m.Wf) (h : wrong m (a ++ b) = 0) : wrong m a = 0 ∧ wrong (playM a (startM m)).mach b = 0 := by
  obtain ⟨h1, h2, h3, h4, h5, h6⟩ := wrong_parts h
  rw [List.length_append] at h5
  have ha : wrong m a = 0 := wrong_of h1 h2 h3 h4 (by omega) (fun p hp => h6 p (by simp [hp]))
  refine ⟨ha, ?_⟩
  have hg := playM_good a (startM_good wf ha)
  have hl := playM_len a (startM m)
  have hm := playM_ml a (startM m)
  have e1 : (startM m).harts.length = m.harts.length := rfl
  have e2 : (startM m).mem.length = m.mem.length := rfl
  refine wrong_of ?_ ?_ ?_ hg.ok (by omega) (fun p hp => ?_)
  · show (playM a (startM m)).mem.length ≤ _; omega
  · show _ ≤ (playM a (startM m)).harts.length; omega
  · show (playM a (startM m)).harts.length ≤ _; omega
  · have := h6 p (by simp [hp])
    show _ ∧ _ < ((playM a (startM m)).harts.length : Int) ∧ _
    omega
theorem wrong_ahead {m : Mach} {a b : List (Int × Int)} (wf : m.Wf) (h : ¬ wrong m a = 0) : ¬ wrong m (a ++ b) = 0 := fun e => h (play_mach wf e).1
/-- what is shown ahead, laid ahead -/
def St.pre (o : List Int) (n : Nat) (s : St) : St := ⟨s.harts, s.mem, o ++ s.out, n + s.steps⟩
theorem goM_pre (k : Nat) (o : List Int) (n : Nat) (s : St) : goM k (s.pre o n) = (goM k s).pre o n := by
  unfold goM St.pre
  dsimp only
  rw [List.append_assoc]
  rfl
theorem pickM_pre (k : Nat) (o : List Int) (m : Nat) : ∀ (n : Nat) (s : St), pickM k n (s.pre o m) = (pickM k n s).pre o m
  | 0, _ => rfl
  | n + 1, s => by
    unfold pickM
    rw [goM_pre, pickM_pre k o m n]
    show (if (s.hart k).state = 0 then _ else _) = _
    split <;> rfl
theorem playM_pre (o : List Int) (m : Nat) : ∀ (l : List (Int × Int)) (s : St), playM l (s.pre o m) = (playM l s).pre o m
  | [], _ => rfl
  | _ :: r, s => by unfold playM; rw [pickM_pre, playM_pre o m r]
theorem playM_append : ∀ (a b : List (Int × Int)) (s : St), playM (a ++ b) s = playM b (playM a s)
  | [], _, _ => rfl
  | p :: r, b, s => by
    show playM (r ++ b) (pickM p.1.toNat p.2.toNat s) = playM b (playM r (pickM p.1.toNat p.2.toNat s))
    exact playM_append r b _
theorem pickM_add {k : Nat} : ∀ (n m : Nat) (s : St), pickM k (n + m) s = pickM k m (pickM k n s)
  | 0, m, s => by rw [Nat.zero_add]; rfl
  | n + 1, m, s => by
    rw [show n + 1 + m = (n + m) + 1 by omega]
    by_cases h : (s.hart k).state = 0
    · have e1 : pickM k (n + m + 1) s = pickM k (n + m) (goM k s) := by conv => lhs; unfold pickM; rw [if_pos h]
      have e2 : pickM k (n + 1) s = pickM k n (goM k s) := by conv => lhs; unfold pickM; rw [if_pos h]
      rw [e1, e2]; exact pickM_add n m (goM k s)
    · rw [pickM_stop h, pickM_stop h, pickM_stop h]
/-- a run, as what another one is behind it -/
theorem playM_split (m : Mach) (a b : List (Int × Int)) : playM (a ++ b) (startM m) = (playM b (startM (playM a (startM m)).mach)).pre (playM a (startM m)).out (playM a (startM m)).steps := by
  rw [playM_append, ← playM_pre]
  congr 1
  unfold St.pre startM St.mach
  simp
/-- a pick of so many steps is two -/
theorem playM_turns (l : List (Int × Int)) (k : Nat) (hk : k < l.length) (n : Int) (h0 : 0 ≤ n) (h1 : n ≤ (l[k]).2) (s : St) :
    playM (l.take k ++ [((l[k]).1, n), ((l[k]).1, (l[k]).2 - n)] ++ l.drop (k + 1)) s = playM l s := by
  have e : l = l.take k ++ [l[k]] ++ l.drop (k + 1) := by
    rw [List.append_assoc, List.singleton_append, ← List.drop_eq_getElem_cons hk, List.take_append_drop]
  conv => rhs; rw [e]
  rw [playM_append, playM_append, playM_append, playM_append]
  congr 1
  show pickM _ _ (pickM _ _ _) = pickM _ _ _
  rw [← pickM_add]
  congr 1
  show n.toNat + ((l[k]).2 - n).toNat = (l[k]).2.toNat
  omega
theorem wrong_turns {m : Mach} {l : List (Int × Int)} (h : wrong m l = 0) (k : Nat) (hk : k < l.length) (n : Int) (h0 : 0 ≤ n) (h1 : n ≤ (l[k]).2) (hl : l.length < 300) :
    wrong m (l.take k ++ [((l[k]).1, n), ((l[k]).1, (l[k]).2 - n)] ++ l.drop (k + 1)) = 0 := by
  obtain ⟨w1, w2, w3, w4, w5, w6⟩ := wrong_parts h
  refine wrong_of w1 w2 w3 w4 (by simp; omega) (fun p hp => ?_)
  have hp2 := w6 l[k] (List.getElem_mem hk)
  simp only [List.mem_append, List.mem_cons, List.not_mem_nil, or_false] at hp
  rcases hp with (hp | rfl | rfl) | hp
  · exact w6 p (List.mem_of_mem_take hp)
  · exact ⟨hp2.1, hp2.2.1, h0, by show n ≤ 400; omega⟩
  · exact ⟨hp2.1, hp2.2.1, by show 0 ≤ (l[k]).2 - n; omega, by show (l[k]).2 - n ≤ 400; omega⟩
  · exact w6 p (List.mem_of_mem_drop hp)
end Go.Proofs.Ytlfnddmncbkjaaa.Fb

/- The document's step, as a struct of 41 cells. No program in sight. -/
namespace Go.Proofs.Ytlfnddmncbkjaaa.Fb
set_option linter.unusedVariables false
set_option linter.unusedSimpArgs false
open Go.RowKit
structure DidD where
  h : Hart
  vm : Value
  vo : Value
  fr : Int
  many : Int
def dtail (d : DidD) : List Value := [d.vm, d.vo, .int .u32 d.fr, .int .i64 d.many]
def dlist (d : DidD) : List Value := hlist d.h ++ dtail d
def dcells (d : DidD) : Array Value := (dlist d).toArray
def DidD.set (d : DidD) (r x : Int) : DidD := { d with h := d.h.setReg r x }
def DidD.trap (d : DidD) (c : Int) : DidD := { d with h := d.h.trap c }
def did0 : DidD := ⟨hart0, .slice none 0 0, .slice none 0 0, 0, 0⟩
structure DidD.Ok (d : DidD) : Prop where
  len : d.h.regs.length = 32
  m1 : d.vm.oneCell' = true
  o1 : d.vo.oneCell' = true
theorem hlist_len {h : Hart} (wf : h.regs.length = 32) : (hlist h).length = 37 := by simp [hlist, wf]
theorem dlist_len {d : DidD} (h : d.Ok) : (dlist d).length = 41 := by
  rw [dlist, List.length_append, hlist_len h.len]; rfl
theorem dcells_size {d : DidD} (h : d.Ok) : (dcells d).size = 41 := by simp [dcells, dlist_len h]
theorem dlist_one {d : DidD} (h : d.Ok) : ∀ v ∈ (dcells d).toList, v.oneCell' = true := by
  intro v hv
  have hv' : v ∈ dlist d := by simpa [dcells] using hv
  rcases List.mem_append.1 hv' with h1 | h1
  · exact hlist_one d.h v (by simpa [hcells] using h1)
  · simp only [dtail, List.mem_cons, List.not_mem_nil, or_false] at h1
    rcases h1 with rfl | rfl | rfl | rfl
    · exact h.m1
    · exact h.o1
    · rfl
    · rfl
theorem dlist_all {d : DidD} (h : d.Ok) : (dcells d).all (·.oneCell') = true := Array.all_eq_true_iff_forall_mem.2 (fun v hv => dlist_one h v (by simpa using hv))
theorem dlist_h {d : DidD} {j : Nat} {v : Value} (h : (hlist d.h)[j]? = some v) : (dlist d)[j]? = some v := by
  rw [dlist, List.getElem?_append_left (List.getElem?_eq_some_iff.1 h).1]; exact h
theorem dlist_t {d : DidD} (h : d.h.regs.length = 32) (j : Nat) : (dlist d)[37 + j]? = (dtail d)[j]? := by
  rw [dlist, List.getElem?_append_right (by rw [hlist_len h]; omega), hlist_len h, Nat.add_sub_cancel_left]
theorem dlist_setH {d : DidD} {h' : Hart} {j : Nat} {v : Value} (hl : hlist h' = (hlist d.h).set j v) (hj : j < (hlist d.h).length) : dlist { d with h := h' } = (dlist d).set j v := by
  unfold dlist
  rw [List.set_append_left _ _ hj]
  show hlist h' ++ dtail d = _
  rw [hl]
theorem dlist_setT {d d' : DidD} (hh : d'.h = d.h) (h : d.h.regs.length = 32) {j : Nat} {v : Value} (ht : dtail d' = (dtail d).set j v) : dlist d' = (dlist d).set (37 + j) v := by
  unfold dlist
  rw [List.set_append_right _ _ (by rw [hlist_len h]; omega), hlist_len h, Nat.add_sub_cancel_left, hh, ht]
theorem box_did (d : DidD) (w : World) (t : TypeId) : At (w.alloc (.cells (dcells d) t)) w.heap.size 0 (dlist d) := at_alloc w (dlist d) t (0, 0)
theorem results_c1 {P : Program} {fn : Func} {a : Tmp} {t : TypeId} (h : fn.results = #[.cell a t]) (tmps : Array Value) {p : Addr} {w : World} {v : Value} (hp : tmps.getD a undef = .pointer (some p)) (hl : (loadVar t p).run P w = .ok v w) :
    (results fn tmps).run P w = .ok v w := by
  have hp' : tmps[a]?.getD undef = .pointer (some p) := by rw [← hp]; simp
  simp [results, h, hp', hl, Sem.run_bind, asAddr]
theorem results_c1t {P : Program} {fn : Func} {a x : Tmp} {t : TypeId} (h : fn.results = #[.cell a t, .tmp x]) (tmps : Array Value) {p : Addr} {w : World} {v : Value} (hp : tmps.getD a undef = .pointer (some p)) (hl : (loadVar t p).run P w = .ok v w) :
    (results fn tmps).run P w = .ok (.tuple #[v, tmps.getD x undef]) w := by
  have hp' : tmps[a]?.getD undef = .pointer (some p) := by rw [← hp]; simp
  simp [results, h, hp', hl, Sem.run_bind, asAddr]
theorem did0_ok : did0.Ok := ⟨rfl, rfl, rfl⟩
/-- what a function on a Did begins with: its box, and its answer's cells behind it -/
structure DBox (B R : Nat) (tD : TypeId) (w : World) (d : DidD) : Prop where
  at_ : At w B 0 (dlist d)
  frz : ∀ o, w.frozen? ⟨B, o, none⟩ = false
  there : w.there R 0 41
theorem DBox.begin {w : World} {tD : TypeId} {d : DidD} {z : Array Value} (hz : z.size = 41) : DBox w.heap.size (w.heap.size + 1) tD ((w.alloc (.cells (dcells d) tD)).alloc (.cells z tD)) d := by
  have hB : Below (w.heap.size + 1) (w.alloc (.cells (dcells d) tD)) ((w.alloc (.cells (dcells d) tD)).alloc (.cells z tD)) := Below.alloc (Below.refl _ _) (by simp) _
  refine ⟨(box_did d w tD).below (by have := hB; simpa using this), fun o => ?_, fun j hj => ?_⟩
  · rw [hB.frozen (p := ⟨w.heap.size, o, none⟩) (by show w.heap.size < _; omega)]
    unfold World.frozen?; rw [heap_alloc_new]; simp
  · have hn : ((w.alloc (.cells (dcells d) tD)).alloc (.cells z tD)).heap[w.heap.size + 1]? = some (.cells z tD (0, 0)) := by
      have := heap_alloc_new (w.alloc (.cells (dcells d) tD)) (.cells z tD)
      simpa using this
    have hj2 : 0 + j < z.size := by omega
    exact ⟨by unfold World.cell?; rw [hn]; simp; omega, by unfold World.frozen?; rw [hn]; simp⟩
theorem DBox.below {B R : Nat} {tD : TypeId} {w w' : World} {d : DidD} (h : DBox B R tD w d) (hB0 : B < w.heap.size) (hB : R < w.heap.size) (hb : Below w.heap.size w w') : DBox B R tD w' d :=
  ⟨h.at_.below hb, fun o => (hb.frozen (p := ⟨B, o, none⟩) hB0).trans (h.frz o), fun j hj => ⟨by rw [hb.cell (p := ⟨R, 0 + j, none⟩) hB]; exact (h.there j hj).1, by rw [hb.frozen (p := ⟨R, 0 + j, none⟩) hB]; exact (h.there j hj).2⟩⟩
theorem there_setCell {w : World} {b o n : Nat} (h : w.there b o n) (p : Addr) (hp : p.spot = none) (v : Value) : (w.setCell p v).there b o n := by
  obtain ⟨b', o', s⟩ := p
  simp only at hp
  subst hp
  have := World.there_setCells h b' o' [v]
  simpa [World.setCells] using this
/-- a cell of the box is laid -/
theorem DBox.set {B R : Nat} {tD : TypeId} {w : World} {d d' : DidD} (h : DBox B R tD w d) (j : Nat) (v : Value) (hj : j < (dlist d).length) (hl : dlist d' = (dlist d).set j v) : DBox B R tD (w.setCell ⟨B, j, none⟩ v) d' :=
  ⟨by rw [hl]; have := h.at_.set j hj v; simpa using this, fun o => (World.frozen?_setCell _ _ _ _).trans (h.frz o), there_setCell h.there _ rfl _⟩
theorem DBox.get {B R : Nat} {tD : TypeId} {w : World} {d : DidD} (h : DBox B R tD w d) {j : Nat} {v : Value} (hj : (dlist d)[j]? = some v) : w.cell? ⟨B, j, none⟩ = some v := by
  have := h.at_.get hj
  simpa using this
theorem DBox.drewN {B R : Nat} {tD : TypeId} {w : World} {d : DidD} (h : DBox B R tD w d) (n : Nat) : DBox B R tD (w.drewN n) d := ⟨h.at_, h.frz, h.there⟩
theorem DidD.Ok.setReg {d : DidD} (h : d.Ok) (r x : Int) : (d.set r x).Ok := ⟨by unfold DidD.set Hart.setReg; split <;> simp [h.len], h.m1, h.o1⟩
theorem hlist_pc' {h : Hart} (w : h.regs.length = 32) : (hlist h)[32]? = some (.int .u32 h.pc) := by simp [hlist, w]
theorem hlist_held' {h : Hart} (w : h.regs.length = 32) : (hlist h)[33]? = some (.bool h.held) := by simp [hlist, w]
theorem hlist_heldAt' {h : Hart} (w : h.regs.length = 32) : (hlist h)[34]? = some (.int .u32 h.heldAt) := by simp [hlist, w]
theorem hlist_state' {h : Hart} (w : h.regs.length = 32) : (hlist h)[35]? = some (.int .i64 h.state) := by simp [hlist, w]
theorem hlist_cause' {h : Hart} (w : h.regs.length = 32) : (hlist h)[36]? = some (.int .i64 h.cause) := by simp [hlist, w]
theorem hlist_reg' {h : Hart} (w : h.regs.length = 32) (k : Nat) (hk : k < 32) : (hlist h)[k]? = some (.int .u32 (h.regs.getD k 0)) := by
  have : k < h.regs.length := by rw [w]; exact hk
  simp [hlist, List.getElem?_append, this]
/-- the whole box is laid anew -/
theorem DBox.put {B R : Nat} {tD : TypeId} {w : World} {d d' : DidD} (h : DBox B R tD w d) (hd : d.Ok) (hd' : d'.Ok) : DBox B R tD (w.setCells B 0 (dcells d').toList) d' := by
  have ht : w.there B 0 (dcells d').toList.length := by
    have : (dcells d').toList.length = 41 := by simp [dcells, dlist_len hd']
    rw [this]
    exact there_at h.at_ (dlist_len hd) h.frz
  refine ⟨?_, fun o => by rw [World.frozen?_setCells]; exact h.frz o, World.there_setCells h.there _ _ _⟩
  have hr := World.rangeAt_setCells_same w B 0 (dcells d').toList ht
  intro j hj
  have := hr j (dlist d')[j] (by simp [dcells, hj])
  exact this
theorem DBox.thereB {B R : Nat} {tD : TypeId} {w : World} {d d' : DidD} (h : DBox B R tD w d) (hd : d.Ok) (hd' : d'.Ok) : w.there B 0 (dcells d').size := by
  rw [dcells_size hd']; exact there_at h.at_ (dlist_len hd) h.frz
theorem DBox.other {B R : Nat} {tD : TypeId} {w : World} {d : DidD} (h : DBox B R tD w d) {p : Addr} (hp : p.block ≠ B) (hs : p.spot = none) (v : Value) : DBox B R tD (w.setCell p v) d :=
  ⟨h.at_.set_other hp v, fun o => (World.frozen?_setCell _ _ _ _).trans (h.frz o), there_setCell h.there _ hs _⟩
/-- a Did, as a hart at work -/
structure DidOf (w : World) (d : DidD) (c : CoreD) : Prop where
  h : d.h = c.h
  m : Ints .u8 w d.vm c.m
  o : Ints .u32 w d.vo c.out
  fr : d.fr = c.fr
  many : d.many = c.tw - c.fr
theorem DidOf.below {w w' : World} {d : DidD} {c : CoreD} (h : DidOf w d c) (hb : Below w.heap.size w w') : DidOf w' d c := ⟨h.h, h.m.below hb, h.o.below hb, h.fr, h.many⟩
theorem Ints.one {k : IntKind} {w : World} {v : Value} {l : List Int} (h : Ints k w v l) : v.oneCell' = true := by
  obtain ⟨ao, cap, rfl, _⟩ := h.open
  rfl
theorem DidOf.ok {w : World} {d : DidD} {c : CoreD} (h : DidOf w d c) (wf : c.Wf) : d.Ok := ⟨by rw [h.h]; exact wf.h.len, h.m.one, h.o.one⟩
theorem DidOf.set {w : World} {d : DidD} {c : CoreD} (h : DidOf w d c) (r x : Int) : DidOf w (d.set r x) (c.set r x) := ⟨by show d.h.setReg r x = c.h.setReg r x; rw [h.h], h.m, h.o, h.fr, h.many⟩
theorem DidOf.trap {w : World} {d : DidD} {c : CoreD} (h : DidOf w d c) (x : Int) : DidOf w (d.trap x) (c.trap x) := ⟨by show d.h.trap x = c.h.trap x; rw [h.h], h.m, h.o, h.fr, h.many⟩
theorem DidOf.setPc {w : World} {d : DidD} {c : CoreD} (h : DidOf w d c) (x : Int) : DidOf w { d with h := { d.h with pc := x } } (c.setPc x) := ⟨by show ({ d.h with pc := x } : Hart) = { c.h with pc := x }; rw [h.h], h.m, h.o, h.fr, h.many⟩
theorem DidOf.hold {w : World} {d : DidD} {c : CoreD} (h : DidOf w d c) (b : Bool) (x : Int) : DidOf w { d with h := { d.h with held := b, heldAt := x } } (c.hold b x) := ⟨by show ({ d.h with held := b, heldAt := x } : Hart) = { c.h with held := b, heldAt := x }; rw [h.h], h.m, h.o, h.fr, h.many⟩
theorem DidOf.put {w : World} {d : DidD} {c : CoreD} {v : Value} {op at_ x : Int} (h : DidOf w d c) (hq : mStoreOk c.m op at_ = true) (ha : U32 at_) (hl : c.m.length ≤ 4096) (hv : Ints .u8 w v (mStore c.m op at_ x)) :
    DidOf w { d with vm := v, fr := at_, many := msize op } (c.put op at_ x) := by
  have hs : 0 < msize op ∧ at_ + msize op ≤ c.m.length := by simp [mStoreOk, there] at hq; omega
  have ha1 := ha.1
  have e : c.put op at_ x = { c with m := mStore c.m op at_ x, fr := at_, tw := (at_ + msize op) % 4294967296 } := by unfold CoreD.put; rw [if_pos hq]
  rw [e]
  refine ⟨h.h, hv, h.o, rfl, ?_⟩
  show msize op = (at_ + msize op) % 4294967296 - at_
  omega
theorem fresh_ne {v : Value} {S R : Nat} (hf : ∀ q, v.ownBlock = some q → S ≤ q) (hR : R < S) : ∀ b off n c, v = .slice (some ⟨b, off, none⟩) n c → R ≠ b := fun b off n c e => by
  have := hf b (by rw [e]; rfl)
  omega
theorem DidOf.setCells {w : World} {d : DidD} {c : CoreD} (h : DidOf w d c) {R : Nat} (h1 : ∀ b off n c, d.vm = .slice (some ⟨b, off, none⟩) n c → R ≠ b) (h2 : ∀ b off n c, d.vo = .slice (some ⟨b, off, none⟩) n c → R ≠ b) (o : Nat) (vs : List Value) : DidOf (w.setCells R o vs) d c :=
  ⟨h.h, sl_setCells h1 _ _ _ h.m, sl_setCells h2 _ _ _ h.o, h.fr, h.many⟩
theorem put_hold (c : CoreD) (b : Bool) (x op at_ y : Int) : (c.hold b x).put op at_ y = (c.put op at_ y).hold b x := by
  unfold CoreD.put CoreD.hold
  dsimp only
  split <;> rfl
theorem store_load (l : List Int) (a : Int) : mStoreOk l 18 a = mLoadOk l 13 a := rfl
theorem DBox.begin2 {w : World} {tD : TypeId} {d : DidD} {z : Array Value} {o : Obj} (hz : z.size = 41) : DBox w.heap.size (w.heap.size + 2) tD (((w.alloc (.cells (dcells d) tD)).alloc o).alloc (.cells z tD)) d := by
  have hB : Below (w.heap.size + 1) (w.alloc (.cells (dcells d) tD)) (((w.alloc (.cells (dcells d) tD)).alloc o).alloc (.cells z tD)) := (Below.alloc (Below.refl _ _) (by simp) _).alloc (by simp) _
  refine ⟨(box_did d w tD).below (by have := hB; simpa using this), fun o => ?_, fun j hj => ?_⟩
  · rw [hB.frozen (p := ⟨w.heap.size, o, none⟩) (by show w.heap.size < _; omega)]
    unfold World.frozen?; rw [heap_alloc_new]; simp
  · have hn : (((w.alloc (.cells (dcells d) tD)).alloc o).alloc (.cells z tD)).heap[w.heap.size + 2]? = some (.cells z tD (0, 0)) := by
      have := heap_alloc_new ((w.alloc (.cells (dcells d) tD)).alloc o) (.cells z tD)
      simpa using this
    exact ⟨by unfold World.cell?; rw [hn]; simp; omega, by unfold World.frozen?; rw [hn]; simp⟩
theorem size_setCells (b : Nat) : ∀ (vs : List Value) (o : Nat) (w : World), (w.setCells b o vs).heap.size = w.heap.size
  | [], _, _ => rfl
  | v :: r, o, w => by rw [World.setCells, size_setCells b r]; simp
theorem there_begin (h : Hart) {w : World} {tH tD : TypeId} : ((w.alloc (.cells (hcells h) tH)).alloc (.cells (dcells did0) tD)).there (w.heap.size + 1) 0 41 := fun j hj => by
  have hn : ((w.alloc (.cells (hcells h) tH)).alloc (.cells (dcells did0) tD)).heap[w.heap.size + 1]? = some (.cells (dcells did0) tD (0, 0)) := by
    have := heap_alloc_new (w.alloc (.cells (hcells h) tH)) (.cells (dcells did0) tD)
    simpa using this
  have hz : (dcells did0).size = 41 := rfl
  exact ⟨by unfold World.cell?; rw [hn]; simp; omega, by unfold World.frozen?; rw [hn]; simp⟩
theorem DBox.begin3 {w : World} {tD : TypeId} {d : DidD} {R : Nat} (hR : w.there R 0 41) (hl : R < w.heap.size) : DBox w.heap.size R tD (w.alloc (.cells (dcells d) tD)) d := by
  refine ⟨box_did d w tD, fun o => ?_, World.there_alloc hR _⟩
  unfold World.frozen?; rw [heap_alloc_new]; simp
theorem ints_inj {k : IntKind} {w : World} {v : Value} {l m : List Int} (h : Ints k w v l) (h' : Ints k w v m) : l = m := by
  obtain ⟨ao, cap, rfl, _, _, _, ho⟩ := h.open
  obtain ⟨ao', cap', e, _, _, _, ho'⟩ := h'.open
  injection e with e1 e2 e3
  subst e1
  by_cases hl : l = []
  · rw [hl] at e2
    rw [hl]
    exact (List.eq_nil_of_length_eq_zero (by simpa using e2.symm)).symm
  · have hm : m ≠ [] := by
      intro e; rw [e] at e2; exact hl (List.eq_nil_of_length_eq_zero (by simpa using e2))
    obtain ⟨b, off, rfl, _, hc⟩ := ho hl
    obtain ⟨b', off', e4, _, hc'⟩ := ho' hm
    injection e4 with e4
    injection e4 with e5 e6
    subst e5 e6
    apply List.ext_getElem e2
    intro i h1 h2
    have x1 := hc i h1
    have x2 := hc' i h2
    rw [x1] at x2
    injection x2 with x2
    injection x2 with _ x2
    rw [List.getD, List.getD, List.getElem?_eq_getElem h1, List.getElem?_eq_getElem h2] at x2
    exact x2
theorem ints_old {k : IntKind} {w w' wf : World} {v : Value} {l m : List Int} (h : Ints k w v l) (h' : Ints k w' v m) (hb : Below w.heap.size w w') (hf : Below w.heap.size w wf) : Ints k wf v m := by
  have := ints_inj (h.below hb) h'
  subst this
  exact h.below hf
end Go.Proofs.Ytlfnddmncbkjaaa.Fb

/- The document's board, in memory, and what lies near a store. No program in sight. -/
namespace Go.Proofs.Ytlfnddmncbkjaaa.Fb
set_option linter.unusedVariables false
set_option linter.unusedSimpArgs false
open Go.RowKit
/-- where a step has stored: nowhere, or in some bytes of the memory -/
def Rng (d : CoreD) : Prop := (d.fr = 0 ∧ d.tw = 0) ∨ (0 ≤ d.fr ∧ d.fr < d.tw ∧ d.tw ≤ d.m.length)
theorem Rng.put {d : CoreD} (h : Rng d) (hl : d.m.length ≤ 4096) (op a x : Int) (ha : 0 ≤ a) : Rng (d.put op a x) := by
  unfold CoreD.put
  split
  · rename_i hq
    have hs : 0 < msize op ∧ a + msize op ≤ d.m.length := by simp [mStoreOk, there] at hq; omega
    refine .inr ⟨ha, ?_, ?_⟩
    · show a < (a + msize op) % 4294967296
      omega
    · show (a + msize op) % 4294967296 ≤ ((mStore d.m op a x).length : Int)
      rw [mStore_length]
      omega
  · exact h
theorem ite_rng {P : CoreD → Prop} {c : Prop} [Decidable c] {a b : CoreD} (h1 : c → P a) (h2 : ¬ c → P b) : P (if c then a else b) := by split; exact h1 ‹_›; exact h2 ‹_›
theorem atomS_rng {d : CoreD} (h : Rng d) (hl : d.m.length ≤ 4096) (op a b : Int) (ha : 0 ≤ a) : Rng (atomS d op a b).1 := by
  unfold atomS
  split
  · split
    · exact h
    · split
      · split
        · exact h.put hl 18 a b ha
        · exact h
      · exact h.put hl 18 a _ ha
  · exact h
theorem callS_rng {d : CoreD} (h : Rng d) : Rng (callS d).1 := by
  unfold callS
  split
  · exact h
  · split
    · exact h
    · exact h
theorem doS_rng {d : CoreD} (h : Rng d) (hl : d.m.length ≤ 4096) (hr : ∀ k, 0 ≤ d.h.reg k) (i : InsD) : Rng (doS i d) := by
  unfold doS
  dsimp only
  repeat' (with_reducible refine ite_rng (P := Rng) (fun _ => ?_) (fun _ => ?_))
  all_goals first
    | exact h
    | exact h.put hl _ _ _ (Int.emod_nonneg _ (by decide))
    | exact atomS_rng h hl i.op (d.h.reg i.rs1) (d.h.reg i.rs2) (hr _)
    | exact callS_rng h
theorem goS_rng (h : Hart) (wf : h.Wf) (l : List Int) (hl : l.length ≤ 4096) : Rng (goS ⟨h, l, [], 0, 0⟩) := by
  have h0 : Rng (CoreD.none ⟨h, l, [], 0, 0⟩) := .inl ⟨rfl, rfl⟩
  unfold goS
  split
  · exact doS_rng h0 hl (fun k => (reg_u wf k).1) _
  · exact h0
/-- is a byte of a word among some? -/
def nearB (word fr many : Int) : Bool := decide (0 < many) && decide (fr < word + 4) && decide (word < fr + many)
theorem nearB_lose {d : CoreD} (h : Rng d) (hl : d.m.length ≤ 4096) (x : Hart) (wf : x.Wf) : lose d.fr d.tw x = if (x.held && nearB x.heldAt d.fr (d.tw - d.fr)) = true then { x with held := false, heldAt := 0 } else x := by
  have hu := wf.heldAt
  unfold U32 at hu
  unfold lose
  have e : (decide (d.fr < (x.heldAt + 4) % 4294967296) && decide (x.heldAt < d.tw)) = nearB x.heldAt d.fr (d.tw - d.fr) := by
    unfold nearB
    rw [← Bool.decide_and, ← Bool.decide_and, ← Bool.decide_and]
    refine decide_eq_decide.2 ?_
    rcases h with ⟨h1, h2⟩ | ⟨h1, h2, h3⟩
    · constructor <;> rintro ⟨⟩ <;> omega
    · constructor
      · rintro ⟨a, b⟩; omega
      · rintro ⟨⟨a, b⟩, c⟩; omega
  rw [Bool.and_assoc, e]
/-- one more is looked at -/
theorem near_all {word fr many : Int} (h : ∀ j : Int, 0 ≤ j → j < many → ¬ (0 ≤ fr + j - word ∧ fr + j - word < 4)) : nearB word fr many = false := by
  unfold nearB
  rw [← Bool.decide_and, ← Bool.decide_and]
  refine decide_eq_false ?_
  rintro ⟨⟨a, b⟩, c⟩
  by_cases e : fr ≤ word
  · exact h (word - fr) (by omega) (by omega) (by omega)
  · exact h 0 (by omega) (by omega) (by omega)
theorem near_one {word fr many j : Int} (h0 : 0 ≤ j) (h1 : j < many) (h2 : 0 ≤ fr + j - word) (h3 : fr + j - word < 4) : nearB word fr many = true := by
  unfold nearB
  rw [← Bool.decide_and, ← Bool.decide_and]
  refine decide_eq_true ⟨⟨?_, ?_⟩, ?_⟩ <;> omega
end Go.Proofs.Ytlfnddmncbkjaaa.Fb

/- The document's board, in memory, at work. No program in sight. -/
namespace Go.Proofs.Ytlfnddmncbkjaaa.Fb
set_option linter.unusedVariables false
set_option linter.unusedSimpArgs false
open Go.RowKit
/-- the document's board at bp: its harts at bh, its bytes vm, what came out vo -/
structure PB (bp bh hc : Nat) (vm vo : Value) (ty : TypeId) (w : World) (s : St) : Prop where
  b1 : bp < bh
  c0 : w.cell? ⟨bp, 0, none⟩ = some vm
  c1 : w.cell? ⟨bp, 1, none⟩ = some (.slice (some ⟨bh, 0, none⟩) s.harts.length hc)
  c2 : w.cell? ⟨bp, 2, none⟩ = some vo
  c3 : w.cell? ⟨bp, 3, none⟩ = some (.int .i64 s.steps)
  frz : ∀ o, w.frozen? ⟨bp, o, none⟩ = false
  harts : At w bh 0 (s.harts.flatMap hlist)
  hlt : bh < w.heap.size
  hfz : ∀ o, w.frozen? ⟨bh, o, none⟩ = false
  bytes : Ints .u8 w vm s.mem
  mlt : s.mem ≠ [] → ∀ k, vm.ownBlock = some k → bp < k ∧ k ≠ bh ∧ vo.ownBlock ≠ some k
  own : w.ownsRow (bh + 1) ty 1 vo s.out.length (s.out.map (Value.int .u32))
  hcap : s.harts.length ≤ hc ∧ hc ≤ maxLen
theorem ints_lt {k : IntKind} {w : World} {v : Value} {l : List Int} (h : Ints k w v l) (hl : l ≠ []) {g : Nat} (e : v.ownBlock = some g) : g < w.heap.size := by
  obtain ⟨ao, cap, rfl, _, _, _, ho⟩ := h.open
  obtain ⟨b, off, rfl, _, hx⟩ := ho hl
  cases e
  exact lt_of_cell (hx 0 (List.length_pos_iff.2 hl))
theorem ints_move {k : IntKind} {w w' : World} {v : Value} {l : List Int} (h : Ints k w v l) (hb : l ≠ [] → ∀ g, v.ownBlock = some g → w'.heap[g]? = w.heap[g]?) : Ints k w' v l := by
  by_cases hl : l = []
  · subst hl
    obtain ⟨h1, ao, cap, h2, h3, h4, h5, h6⟩ := h
    exact ⟨h1, ao, cap, h2, h3, h4, h5, fun a ha hx => absurd rfl hx⟩
  · exact sl_block h (hb hl)
section
variable {bp bh hc k : Nat} {vm vo : Value} {ty : TypeId} {w w' : World} {s : St}
theorem PB.lt (h : PB bp bh hc vm vo ty w s) : bp < w.heap.size := lt_of_cell h.c0
theorem PB.below (h : PB bp bh hc vm vo ty w s) (hb : Below w.heap.size w w') : PB bp bh hc vm vo ty w' s := by
  have e := hb.block bp h.lt
  have eh := hb.block bh h.hlt
  exact ⟨h.b1, (cell_block e _).trans h.c0, (cell_block e _).trans h.c1, (cell_block e _).trans h.c2, (cell_block e _).trans h.c3, fun o => (frozen_block e o).trans (h.frz o), h.harts.below hb, Nat.lt_of_lt_of_le h.hlt hb.size, fun o => (frozen_block eh o).trans (h.hfz o), h.bytes.below hb, h.mlt, owns_below h.own hb, h.hcap⟩
/-- the steps are told -/
theorem PB.tick (h : PB bp bh hc vm vo ty w s) (n : Nat) : PB bp bh hc vm vo ty (w.setCell ⟨bp, 3, none⟩ (.int .i64 n)) { s with steps := n } := by
  have b1 := h.b1
  have hbk : ∀ j, j ≠ bp → (w.setCell ⟨bp, 3, none⟩ (.int .i64 n)).heap[j]? = w.heap[j]? := fun j hj => Below.heap_setCell _ _ _ _ (by show j ≠ bp; exact hj)
  have hc : ∀ j, j ≠ 3 → (w.setCell ⟨bp, 3, none⟩ (.int .i64 n)).cell? ⟨bp, j, none⟩ = w.cell? ⟨bp, j, none⟩ := fun j hj => World.cell?_setCell_other _ _ _ _ (by intro e; injection e with _ e2; omega)
  exact ⟨h.b1, (hc 0 (by omega)).trans h.c0, (hc 1 (by omega)).trans h.c1, (hc 2 (by omega)).trans h.c2, World.cell?_setCell_same _ _ _ h.c3, fun o => (World.frozen?_setCell _ _ _ _).trans (h.frz o), h.harts.set_other (by show bp ≠ bh; omega) _, by have := h.hlt; simpa using this, fun o => (World.frozen?_setCell _ _ _ _).trans (h.hfz o), ints_move h.bytes (fun hm g hg => hbk g (by have := h.mlt hm g hg; omega)), h.mlt, owns_block h.own (fun g hg => hbk g (by have := h.own.lt g hg; omega)), h.hcap⟩
/-- the step's hart and bytes are laid -/
theorem PB.did {d : DidD} {c : CoreD} (h : PB bp bh hc vm vo ty w s) (wf : s.Wf) (wd : c.h.Wf) (hl : c.m.length = s.mem.length) (kl : k < s.harts.length) (hd : DidOf w d c) {S : Nat} (hS : bh < S) (hS2 : ∀ g, vo.ownBlock = some g → g < S)
    (hm : d.vm = vm ∨ ∀ q, d.vm.ownBlock = some q → S ≤ q) (ho : ∀ q, d.vo.ownBlock = some q → S ≤ q) :
    PB bp bh hc d.vm vo ty ((w.setCells bh (k * 37) (hlist d.h)).setCell ⟨bp, 0, none⟩ d.vm) ⟨s.harts.set k c.h, c.m, s.out, s.steps⟩ ∧
      Ints .u32 ((w.setCells bh (k * 37) (hlist d.h)).setCell ⟨bp, 0, none⟩ d.vm) d.vo c.out ∧ Below bp w ((w.setCells bh (k * 37) (hlist d.h)).setCell ⟨bp, 0, none⟩ d.vm) ∧
      (∀ g, g ≠ bp → g ≠ bh → ((w.setCells bh (k * 37) (hlist d.h)).setCell ⟨bp, 0, none⟩ d.vm).heap[g]? = w.heap[g]?) ∧ (w.setCells bh (k * 37) (hlist d.h)).there bh (k * 37) 37 := by
  have b1 := h.b1
  have hbk1 : ∀ j, j ≠ bh → (w.setCells bh (k * 37) (hlist d.h)).heap[j]? = w.heap[j]? := fun j hj => (by
    have : ∀ (vs : List Value) (o : Nat) (w : World), (w.setCells bh o vs).heap[j]? = w.heap[j]? := fun vs => by
      induction vs with
      | nil => intro _ _; rfl
      | cons v r ih => intro o w; rw [World.setCells, ih]; exact Below.heap_setCell _ _ _ _ (by show j ≠ bh; exact hj)
    exact this _ _ _)
  have hbk2 : ∀ j, j ≠ bp → ((w.setCells bh (k * 37) (hlist d.h)).setCell ⟨bp, 0, none⟩ d.vm).heap[j]? = (w.setCells bh (k * 37) (hlist d.h)).heap[j]? := fun j hj => Below.heap_setCell _ _ _ _ (by show j ≠ bp; exact hj)
  have hc0 : ∀ j, j ≠ 0 → ((w.setCells bh (k * 37) (hlist d.h)).setCell ⟨bp, 0, none⟩ d.vm).cell? ⟨bp, j, none⟩ = w.cell? ⟨bp, j, none⟩ := fun j hj => (World.cell?_setCell_other _ _ _ _ (by intro e; injection e with _ e2; omega)).trans (cell_block (hbk1 bp (by omega)) j)
  have hz : ((w.setCells bh (k * 37) (hlist d.h)).setCell ⟨bp, 0, none⟩ d.vm).heap.size = w.heap.size := by simp [size_setCells]
  have hof : ∀ b o, (w.setCells bh (k * 37) (hlist d.h)).frozen? ⟨b, o, none⟩ = w.frozen? ⟨b, o, none⟩ := fun b o => by rw [World.frozen?_setCells]
  have hll := hlist_length wd
  have hth : w.there bh (k * 37) 37 := by
    have hl37 := hlist_length (wf.harts _ (List.getElem_mem kl))
    exact there_at (at_hart h.harts (fun x hx => hlist_length (wf.harts x hx)) kl) hl37 h.hfz
  have hdl : (hlist d.h).length = 37 := by rw [hd.h]; exact hll
  have hsame : At (w.setCells bh (k * 37) (hlist d.h)) bh (k * 37) (hlist c.h) := by
    intro j hj
    have hr := World.rangeAt_setCells_same w bh (k * 37) (hlist d.h) (by rw [hdl]; exact hth)
    rw [← hd.h] at hj
    have := hr j (hlist d.h)[j] (by simp [hj])
    simp only [hd.h] at this ⊢
    exact this
  have hmb : c.m ≠ [] → ∀ g, d.vm.ownBlock = some g → bp < g ∧ g ≠ bh ∧ vo.ownBlock ≠ some g := fun hne g hg => by
    have hne' : s.mem ≠ [] := fun e => hne (List.eq_nil_of_length_eq_zero (by rw [hl, e]; rfl))
    rcases hm with e | e
    · rw [e] at hg; exact h.mlt hne' g hg
    · have := e g hg
      exact ⟨by omega, by omega, fun e2 => by have := hS2 g e2; omega⟩
  refine ⟨⟨h.b1, World.cell?_setCell_same _ _ _ ((cell_block (hbk1 bp (by omega)) 0).trans h.c0), (hc0 1 (by omega)).trans (by rw [h.c1]; simp), (hc0 2 (by omega)).trans h.c2, (hc0 3 (by omega)).trans h.c3, fun o => (World.frozen?_setCell _ _ _ _).trans ((hof bp o).trans (h.frz o)), ?_, by rw [hz]; exact h.hlt, fun o => (World.frozen?_setCell _ _ _ _).trans ((hof bh o).trans (h.hfz o)), ?_, hmb, ?_, by show (s.harts.set k c.h).length ≤ _ ∧ _; rw [List.length_set]; exact h.hcap⟩, ?_, ?_, fun g h1 h2 => (hbk2 g h1).trans (hbk1 g h2), World.there_setCells hth _ _ _⟩
  · refine At.set_other ?_ (by show bp ≠ bh; omega) _
    refine at_harts_set h.harts (fun x hx => hlist_length (wf.harts x hx)) hll hsame (fun o ho => ?_)
    exact World.cell?_setCells_out _ _ _ _ _ (fun _ hs => by rw [hdl]; exact ho)
  · exact ints_move hd.m (fun hne g hg => by have := hmb hne g hg; exact (hbk2 g (by omega)).trans (hbk1 g this.2.1))
  · exact owns_block h.own (fun g hg => by have := h.own.lt g hg; exact (hbk2 g (by omega)).trans (hbk1 g (by omega)))
  · exact ints_move hd.o (fun _ g hg => by have := ho g hg; exact (hbk2 g (by omega)).trans (hbk1 g (by omega)))
  · exact (below_setCells (B := bp) (by omega) _ _ _ (Below.refl bp w)).setCell (p := ⟨bp, 0, none⟩) (Nat.le_refl bp) _
/-- what came out is laid behind what had come out -/
theorem PB.out {v' : Value} {o : List Int} (h : PB bp bh hc vm vo ty w s) (hown : w'.ownsRow (bh + 1) ty 1 v' (s.out.length + o.length) (s.out.map (Value.int .u32) ++ o.map (Value.int .u32))) (hg : w.grownBy w' vo.ownBlock) (hf : ∀ k, v'.ownBlock = some k → vo.ownBlock = some k ∨ w.heap.size ≤ k) :
    PB bp bh hc vm v' ty (w'.setCell ⟨bp, 2, none⟩ v') { s with out := s.out ++ o } ∧ Below bp w (w'.setCell ⟨bp, 2, none⟩ v') ∧ (∀ g, g < w.heap.size → g ≠ bp → vo.ownBlock ≠ some g → (w'.setCell ⟨bp, 2, none⟩ v').heap[g]? = w.heap[g]?) := by
  have b1 := h.b1
  have hlt := h.lt
  have hh := h.hlt
  have hsz := hg.size
  have hfar : ∀ j, j < w.heap.size → vo.ownBlock ≠ some j → w'.heap[j]? = w.heap[j]? := fun j hj hn => hg.block j hj (fun e => hn e.symm)
  have hbk : ∀ j, j ≠ bp → (w'.setCell ⟨bp, 2, none⟩ v').heap[j]? = w'.heap[j]? := fun j hj => Below.heap_setCell _ _ _ _ (by show j ≠ bp; exact hj)
  have hno : ∀ j, j ≤ bh → vo.ownBlock ≠ some j := fun j hj e => by have := h.own.lt j e; omega
  have e := hfar bp hlt (hno bp (by omega))
  have eh := (hbk bh (by omega)).trans (hfar bh hh (hno bh (Nat.le_refl _)))
  have hcc : ∀ j, j ≠ 2 → (w'.setCell ⟨bp, 2, none⟩ v').cell? ⟨bp, j, none⟩ = w.cell? ⟨bp, j, none⟩ := fun j hj => (World.cell?_setCell_other _ _ _ _ (by intro e; injection e with _ e2; omega)).trans (cell_block e j)
  refine ⟨⟨h.b1, (hcc 0 (by omega)).trans h.c0, (hcc 1 (by omega)).trans h.c1, World.cell?_setCell_same _ _ _ ((cell_block e 2).trans h.c2), (hcc 3 (by omega)).trans h.c3, fun o => (World.frozen?_setCell _ _ _ _).trans ((frozen_block e o).trans (h.frz o)), fun j hj => (cell_block eh _).trans (h.harts j hj), by simp; omega, fun o => (frozen_block eh o).trans (h.hfz o), ints_move h.bytes (fun hne g hg' => ?_), fun hne g hg' => ?_, ?_, h.hcap⟩, ?_, fun g h1 h2 h3 => (hbk g h2).trans (hfar g h1 h3)⟩
  · have := h.mlt hne g hg'
    exact (hbk g (by omega)).trans (hfar g (ints_lt h.bytes hne hg') this.2.2)
  · have := h.mlt hne g hg'
    refine ⟨this.1, this.2.1, fun e2 => ?_⟩
    have hl := ints_lt h.bytes hne hg'
    rcases hf g e2 with e3 | e3
    · exact this.2.2 e3
    · omega
  · have := ownsRow_setCell_below hown (a := ⟨bp, 2, none⟩) (by show bp < bh + 1; omega) v'
    simpa using this
  · exact ((Below.refl bp w).grown hg (by omega) (fun g e => by have := h.own.lt g e; omega)).setCell (p := ⟨bp, 2, none⟩) (Nat.le_refl _) _
/-- others have lost what they had reserved -/
theorem PB.lost {hs : List Hart} (h : PB bp bh hc vm vo ty w s) (hl : hs.length = s.harts.length) (ha : At w' bh 0 (hs.flatMap hlist)) (hg : Chg (fun p => p.block = bh) w w') :
    PB bp bh hc vm vo ty w' { s with harts := hs } := by
  have b1 := h.b1
  have hlt := h.lt
  have hh := h.hlt
  have hsz := hg.size
  have hbk : ∀ j, j < w.heap.size → j ≠ bh → w'.heap[j]? = w.heap[j]? := fun j hj hn => hg.block j hj (fun o e => hn e)
  have e := hbk bp hlt (by omega)
  exact ⟨h.b1, (cell_block e _).trans h.c0, (cell_block e _).trans (by rw [h.c1, ← hl]), (cell_block e _).trans h.c2, (cell_block e _).trans h.c3, fun o => (frozen_block e o).trans (h.frz o), ha, by omega, fun o => (hg.frozen ⟨bh, o, none⟩ hh).trans (h.hfz o), ints_move h.bytes (fun hne g hg' => hbk g (ints_lt h.bytes hne hg') (h.mlt hne g hg').2.1), h.mlt, owns_block h.own (fun g hg' => hbk g (h.own.lt g hg').2 (by have := h.own.lt g hg'; omega)), by rw [show ({ s with harts := hs } : St).harts.length = s.harts.length from hl]; exact h.hcap⟩
end
end Go.Proofs.Ytlfnddmncbkjaaa.Fb

/- Blocks that are kept: plain. No program in sight. -/
namespace Go.Proofs.Ytlfnddmncbkjaaa.Fb
set_option linter.unusedVariables false
set_option linter.unusedSimpArgs false
open Go.RowKit
/-- a block as it lies in a row: where it begins, the slice, what that holds -/
structure BlkD where
  pc : Int
  vi : Value
  ins : List InsD
def blist (x : BlkD) : List Value := [.int .u32 x.pc, x.vi]
structure BlkOk (w : World) (x : BlkD) : Prop where
  at_ : BlockAt w x.vi x.ins
  pc : U32 x.pc
theorem BlkOk.below {w w' : World} {x : BlkD} (h : BlkOk w x) (hb : Below w.heap.size w w') : BlkOk w' x := ⟨Sl.below h.at_ hb, h.pc⟩
def Blks (w : World) (v : Value) (l : List BlkD) : Prop := Sl w v 2 l.length (l.flatMap blist) ∧ ∀ x ∈ l, BlkOk w x
theorem Blks.below {w w' : World} {v : Value} {l : List BlkD} (h : Blks w v l) (hb : Below w.heap.size w w') : Blks w' v l := ⟨Sl.below h.1 hb, fun x hx => (h.2 x hx).below hb⟩
theorem blist_one {w : World} {x : BlkD} (h : BlkOk w x) : ∀ u ∈ blist x, u.oneCell' = true := by
  obtain ⟨ao, cap, e, _⟩ := h.at_.open (fun _ _ => rfl) (by omega)
  intro u hu
  simp only [blist, List.mem_cons, List.not_mem_nil, or_false] at hu
  rcases hu with rfl | rfl
  · rfl
  · rw [e]; rfl
/-- where the first one of a place is; as many as there are: nowhere -/
def placeN (l : List BlkD) (pc : Int) : Nat := l.findIdx (fun x => x.pc == pc)
def placeI (l : List BlkD) (pc : Int) : Int := if placeN l pc < l.length then (placeN l pc : Int) else -1
theorem placeI_at {l : List BlkD} {pc : Int} {k : Nat} (hk : k < l.length) (h : l[k].pc = pc) (hn : ∀ j (hj : j < k), l[j].pc ≠ pc) : placeI l pc = k := by
  have e : placeN l pc = k := by
    refine Nat.le_antisymm ?_ ?_
    · refine Nat.le_of_not_lt (fun hlt => ?_)
      have := List.not_of_lt_findIdx hlt
      simp [h] at this
    · refine Nat.le_of_not_lt (fun hlt => ?_)
      have h2 : placeN l pc < l.length := by omega
      have : (l[placeN l pc].pc == pc) = true := List.findIdx_getElem (p := fun x : BlkD => x.pc == pc) (xs := l) (w := h2)
      exact hn _ hlt (by simpa using this)
  unfold placeI; rw [e, if_pos hk]
theorem placeI_no {l : List BlkD} {pc : Int} (hn : ∀ j (hj : j < l.length), l[j].pc ≠ pc) : placeI l pc = -1 := by
  unfold placeI
  rw [if_neg]
  intro h
  have : (l[placeN l pc].pc == pc) = true := List.findIdx_getElem (p := fun x : BlkD => x.pc == pc) (xs := l) (w := h)
  exact hn _ h (by simpa using this)
end Go.Proofs.Ytlfnddmncbkjaaa.Fb

/- A struct of two cells that was laid into a result's box: read back. No program in sight. -/
namespace Go.Proofs.Ytlfnddmncbkjaaa.Fb
set_option linter.unusedVariables false
set_option linter.unusedSimpArgs false
open Go.RowKit
theorem load_out2 {P : Program} {w : World} {R : Nat} {a0 a1 x0 x1 : Value} {ty : TypeId} {d : TypeDesc} (r0 : w.cell? ⟨R, 0, none⟩ = some a0) (r1 : w.cell? ⟨R, 1, none⟩ = some a1)
    (hu : P.underlying ty = some d) (hd : (match d with | .struct _ | .array _ _ => true | _ => false) = true) (hi : (P.info? ty).map (·.size) = some 2) :
    (loadVar ty ⟨R, 0, none⟩).run P ((w.setCell ⟨R, 0, none⟩ x0).setCell ⟨R, 1, none⟩ x1) = .ok (.agg #[x0, x1]) ((w.setCell ⟨R, 0, none⟩ x0).setCell ⟨R, 1, none⟩ x1) := by
  refine run_loadVar_at _ R 0 ty #[x0, x1] d (fun j hj => ?_) hu hd (by simpa using hi)
  have r1' : (w.setCell ⟨R, 0, none⟩ x0).cell? ⟨R, 1, none⟩ = some a1 := (World.cell?_setCell_other _ _ _ _ (by intro e; injection e with _ e2; omega)).trans r1
  match j, hj with
  | 0, _ => exact (World.cell?_setCell_other _ _ _ _ (by intro e; injection e with _ e2; omega)).trans (World.cell?_setCell_same _ _ _ r0)
  | 1, _ => exact World.cell?_setCell_same _ _ _ r1'
/-- a struct in a new box -/
theorem load_new {P : Program} (w : World) (cs : Array Value) (e : TypeId) {ty : TypeId} {d : TypeDesc} (hu : P.underlying ty = some d) (hd : (match d with | .struct _ | .array _ _ => true | _ => false) = true) (hi : (P.info? ty).map (·.size) = some cs.size) :
    (loadVar ty ⟨w.heap.size, 0, none⟩).run P (w.alloc (.cells cs e)) = .ok (.agg cs) (w.alloc (.cells cs e)) :=
  run_loadVar_at _ w.heap.size 0 ty cs d (at_alloc w cs.toList e (0, 0)) hu hd hi
end Go.Proofs.Ytlfnddmncbkjaaa.Fb

/- A machine read from its bytes. No program in sight. -/
namespace Go.Proofs.Ytlfnddmncbkjaaa.Fb
set_option linter.unusedVariables false
set_option linter.unusedSimpArgs false
open Go.RowKit
/-- the number whose four bytes are ahead -/
def leW (l : List Int) : Int := l.getD 0 0 + 256 * l.getD 1 0 + 65536 * l.getD 2 0 + 16777216 * l.getD 3 0
abbrev Rd := List Int × Bool
def takeR (n : Nat) (s : Rd) : List Int × Rd := if s.2 = true ∨ s.1.length < n then ([], s.1, true) else (s.1.take n, s.1.drop n, false)
def numR (s : Rd) : Int × Rd := if s.2 = true ∨ s.1.length < 4 then (0, s.1, true) else (leW s.1, s.1.drop 4, false)
def numsR : Nat → Rd → List Int × Rd
  | 0, s => ([], s)
  | n + 1, s => ((numsR n s).1 ++ [(numR (numsR n s).2).1], (numR (numsR n s).2).2)
def hartT (a : List Int × Rd) : Hart × Rd :=
  let b := numR a.2
  let c := numR b.2
  let d := numR (c.2.1, c.2.2 || decide (1 < c.1))
  let e := numR d.2
  let f := numR e.2
  (⟨a.1, b.1, c.1 == 1, d.1, e.1, f.1⟩, f.2)
def hartR (s : Rd) : Hart × Rd := hartT (numsR 32 s)
/-- harts are read while there are more to be read, at most five -/
def hartsR : Nat → Nat → Rd → List Hart × Rd
  | 0, _, s => ([], s)
  | f + 1, n, s => if n = 0 ∨ s.2 = true then ([], s) else ((hartR s).1 :: (hartsR f (n - 1) (hartR s).2).1, (hartsR f (n - 1) (hartR s).2).2)
def getR (b : List Int) : Mach × Rd :=
  let a := numR (b, false)
  let m := takeR a.1.toNat a.2
  let k := numR m.2
  let h := hartsR 5 k.1.toNat k.2
  (⟨m.1, h.1⟩, h.2)
def getOk (b : List Int) : Bool := !(getR b).2.2 && (getR b).2.1.isEmpty && (wrong (getR b).1 [] == 0)
/-- the machine that bytes are -/
def isM (b : List Int) (m : Mach) : Prop := m.Wf ∧ wrong m [] = 0 ∧ mbytes m = b
open Classical in
noncomputable def getS (b : List Int) : Mach × Int := if h : ∃ m, isM b m then (h.choose, 0) else (⟨[], []⟩, 2)
theorem getS_yes {b : List Int} {m : Mach} (h : isM b m) : getS b = (m, 0) := by
  have h2 : ∃ m, isM b m := ⟨m, h⟩
  unfold getS
  rw [dif_pos h2]
  have h3 := h2.choose_spec
  rw [mbytes_inj h3.1 h.1 h3.2.1 h.2.1 (h3.2.2.trans h.2.2.symm)]
theorem getS_no {b : List Int} (h : ∀ m, ¬ isM b m) : getS b = (⟨[], []⟩, 2) := by
  unfold getS
  rw [dif_neg (fun ⟨m, hm⟩ => h m hm)]
theorem leW_quad {x : Int} (h : U32 x) (r : List Int) : leW (quad x ++ r) = x := by
  unfold U32 at h
  simp [leW, quad]
  omega
theorem getD_b {l : List Int} (h : Bytes l) (i : Nat) : 0 ≤ l.getD i 0 ∧ l.getD i 0 < 256 := h.getD i
theorem leW_u {l : List Int} (h : Bytes l) : U32 (leW l) := by
  have h0 := h.getD 0
  have h1 := h.getD 1
  have h2 := h.getD 2
  have h3 := h.getD 3
  unfold leW U32
  omega
theorem quad_leW {l : List Int} (h : Bytes l) (hl : 4 ≤ l.length) : l = quad (leW l) ++ l.drop 4 := by
  match l, hl with
  | a :: b :: c :: d :: r, _ =>
    have h0 := h a (by simp)
    have h1 := h b (by simp)
    have h2 := h c (by simp)
    have h3 := h d (by simp)
    have e : leW (a :: b :: c :: d :: r) = a + 256 * b + 65536 * c + 16777216 * d := by simp [leW]
    rw [e]
    have e1 : (a + 256 * b + 65536 * c + 16777216 * d) % 256 = a := by omega
    have e2 : (a + 256 * b + 65536 * c + 16777216 * d) / 256 % 256 = b := by omega
    have e3 : (a + 256 * b + 65536 * c + 16777216 * d) / 65536 % 256 = c := by omega
    have e4 : (a + 256 * b + 65536 * c + 16777216 * d) / 16777216 % 256 = d := by omega
    simp [quad, e1, e2, e3, e4]
theorem Bytes.drop {l : List Int} (h : Bytes l) (n : Nat) : Bytes (l.drop n) := fun x hx => h x (List.mem_of_mem_drop hx)
theorem Bytes.take {l : List Int} (h : Bytes l) (n : Nat) : Bytes (l.take n) := fun x hx => h x (List.mem_of_mem_take hx)
/-- a number read -/
theorem numR_fwd {x : Int} (h : U32 x) (r : List Int) : numR (quad x ++ r, false) = (x, r, false) := by
  unfold numR
  rw [if_neg (by simp [quad_len]), leW_quad h]
  simp [quad]
theorem numR_bwd {s : Rd} (hb : Bytes s.1) (h : (numR s).2.2 = false) : s.2 = false ∧ s.1 = quad (numR s).1 ++ (numR s).2.1 ∧ U32 (numR s).1 := by
  unfold numR at h ⊢
  split
  · rename_i hc; rw [if_pos hc] at h; cases h
  · rename_i hc
    refine ⟨by cases e : s.2 <;> simp_all, quad_leW hb (by omega), leW_u hb⟩
theorem numR_b {s : Rd} (hb : Bytes s.1) : Bytes (numR s).2.1 := by
  unfold numR; split
  · exact hb
  · exact hb.drop 4
theorem numR_u {s : Rd} (hb : Bytes s.1) : U32 (numR s).1 := by
  unfold numR; split
  · exact (⟨by decide, by decide⟩ : U32 0)
  · exact leW_u hb
theorem numsR_b {s : Rd} (hb : Bytes s.1) : ∀ n, Bytes (numsR n s).2.1
  | 0 => hb
  | n + 1 => numR_b (numsR_b hb n)
theorem numsR_len (s : Rd) : ∀ n, (numsR n s).1.length = n
  | 0 => rfl
  | n + 1 => by unfold numsR; simp [numsR_len s n]
theorem numsR_u {s : Rd} (hb : Bytes s.1) : ∀ n, ∀ x ∈ (numsR n s).1, U32 x
  | 0 => by intro x hx; cases hx
  | n + 1 => by
    intro x hx
    unfold numsR at hx
    rcases List.mem_append.1 hx with hx | hx
    · exact numsR_u hb n x hx
    · rw [List.mem_singleton] at hx; subst hx; exact numR_u (numsR_b hb n)
theorem numsR_fwd : ∀ {l : List Int} (_ : ∀ x ∈ l, U32 x) (n : Nat) (_ : n ≤ l.length) (r : List Int), numsR n (l.flatMap quad ++ r, false) = (l.take n, (l.drop n).flatMap quad ++ r, false)
  | l, _, 0, _, r => by simp [numsR]
  | l, h, n + 1, hn, r => by
    unfold numsR
    rw [numsR_fwd h n (by omega) r]
    dsimp only
    have hn' : n < l.length := by omega
    rw [List.drop_eq_getElem_cons hn', List.flatMap_cons, List.append_assoc, numR_fwd (h _ (List.getElem_mem hn')), List.take_succ_eq_append_getElem hn']
theorem numsR_bwd {s : Rd} (hb : Bytes s.1) : ∀ n, (numsR n s).2.2 = false → s.2 = false ∧ s.1 = (numsR n s).1.flatMap quad ++ (numsR n s).2.1
  | 0, h => ⟨h, by simp [numsR]⟩
  | n + 1, h => by
    unfold numsR at h ⊢
    dsimp only at h ⊢
    obtain ⟨h1, h2, _⟩ := numR_bwd (numsR_b hb n) h
    obtain ⟨h3, h4⟩ := numsR_bwd hb n h1
    refine ⟨h3, ?_⟩
    rw [List.flatMap_append, List.append_assoc]
    show _ = _ ++ (([(numR (numsR n s).2).1] : List Int).flatMap quad ++ (numR (numsR n s).2).2.1)
    rw [List.flatMap_cons, List.flatMap_nil, List.append_nil, ← h2]
    exact h4
theorem hartR_fwd {h : Hart} (wf : h.Wf) (ok : h.ok = true) (r : List Int) : hartR (hbytes h ++ r, false) = (h, r, false) := by
  have hu := hwords_u wf ok
  unfold hwords at hu
  have u1 := hu h.pc (by simp)
  have u2 := hu h.heldInt (by simp)
  have u3 := hu h.heldAt (by simp)
  have u4 := hu h.state (by simp)
  have u5 := hu h.cause (by simp)
  have e : hbytes h ++ r = h.regs.flatMap quad ++ (quad h.pc ++ (quad h.heldInt ++ (quad h.heldAt ++ (quad h.state ++ (quad h.cause ++ r))))) := by
    rw [hbytes_parts]; simp [List.flatMap_cons]
  rw [e]
  unfold hartR
  have e1 := numsR_fwd wf.regs 32 (by rw [wf.len]; omega) (quad h.pc ++ (quad h.heldInt ++ (quad h.heldAt ++ (quad h.state ++ (quad h.cause ++ r)))))
  rw [show h.regs.take 32 = h.regs by rw [← wf.len]; exact List.take_length, show h.regs.drop 32 = [] by rw [← wf.len]; exact List.drop_length] at e1
  simp only [List.flatMap_nil, List.nil_append] at e1
  rw [e1]
  unfold hartT
  dsimp only
  rw [numR_fwd u1]
  dsimp only
  rw [numR_fwd u2]
  dsimp only
  have hd : decide (1 < h.heldInt) = false := decide_eq_false (by unfold Hart.heldInt; split <;> omega)
  rw [hd, Bool.or_false, numR_fwd u3]
  dsimp only
  rw [numR_fwd u4]
  dsimp only
  rw [numR_fwd u5]
  dsimp only
  have hb : (h.heldInt == 1) = h.held := by unfold Hart.heldInt; cases h.held <;> rfl
  rw [hb]
theorem u32_i64 {x : Int} (h : U32 x) : -9223372036854775808 ≤ x ∧ x ≤ 9223372036854775807 := by unfold U32 at h; omega
section
variable {a : List Int × Rd}
theorem hartT_b (b0 : Bytes a.2.1) : Bytes (hartT a).2.1 := by
  have b1 := numR_b b0
  have b2 := numR_b b1
  have b3 := numR_b (s := ((numR (numR a.2).2).2.1, (numR (numR a.2).2).2.2 || decide (1 < (numR (numR a.2).2).1))) b2
  have b4 := numR_b b3
  have b5 := numR_b b4
  exact b5
theorem hartT_wf (b0 : Bytes a.2.1) (hl : a.1.length = 32) (hu : ∀ x ∈ a.1, U32 x) : (hartT a).1.Wf := by
  have b1 := numR_b b0
  have b2 := numR_b b1
  have u3 := numR_u (s := ((numR (numR a.2).2).2.1, (numR (numR a.2).2).2.2 || decide (1 < (numR (numR a.2).2).1))) b2
  have b3 := numR_b (s := ((numR (numR a.2).2).2.1, (numR (numR a.2).2).2.2 || decide (1 < (numR (numR a.2).2).1))) b2
  have b4 := numR_b b3
  exact ⟨hl, hu, numR_u b0, u3, u32_i64 (numR_u b3), u32_i64 (numR_u b4)⟩
theorem hartT_bwd (b0 : Bytes a.2.1) (h : (hartT a).2.2 = false) : a.2.2 = false ∧ a.1.flatMap quad ++ a.2.1 = hbytes (hartT a).1 ++ (hartT a).2.1 := by
  have b1 := numR_b b0
  have b2 := numR_b b1
  have b3 := numR_b (s := ((numR (numR a.2).2).2.1, (numR (numR a.2).2).2.2 || decide (1 < (numR (numR a.2).2).1))) b2
  have b4 := numR_b b3
  unfold hartT at h ⊢
  dsimp only at h ⊢
  obtain ⟨f1, f2, _⟩ := numR_bwd b4 h
  obtain ⟨e1, e2, _⟩ := numR_bwd b3 f1
  obtain ⟨d1, d2, _⟩ := numR_bwd (s := ((numR (numR a.2).2).2.1, (numR (numR a.2).2).2.2 || decide (1 < (numR (numR a.2).2).1))) b2 e1
  simp only [Bool.or_eq_false_iff, decide_eq_false_iff_not] at d1
  obtain ⟨c1, c2, c3⟩ := numR_bwd b1 d1.1
  obtain ⟨a1, a2, _⟩ := numR_bwd b0 c1
  refine ⟨a1, ?_⟩
  rw [hbytes_parts]
  have hh : ∀ (r : List Int) (p x y z : Int), (⟨r, p, (numR (numR a.2).2).1 == 1, x, y, z⟩ : Hart).heldInt = (numR (numR a.2).2).1 := fun r p x y z => by
    unfold Hart.heldInt
    dsimp only
    unfold U32 at c3
    by_cases e : (numR (numR a.2).2).1 = 1
    · rw [e]; rfl
    · rw [if_neg (by simpa using e)]; omega
  rw [hh]
  dsimp only
  simp only [List.flatMap_cons, List.flatMap_nil, List.append_nil, List.append_assoc]
  rw [← f2, ← e2]
  dsimp only at d2
  rw [← d2, ← c2, ← a2]
end
theorem hartR_b {s : Rd} (hb : Bytes s.1) : Bytes (hartR s).2.1 := hartT_b (numsR_b hb 32)
theorem hartR_wf {s : Rd} (hb : Bytes s.1) : (hartR s).1.Wf := hartT_wf (numsR_b hb 32) (numsR_len s 32) (numsR_u hb 32)
theorem hartR_bwd {s : Rd} (hb : Bytes s.1) (h : (hartR s).2.2 = false) : s.2 = false ∧ s.1 = hbytes (hartR s).1 ++ (hartR s).2.1 := by
  obtain ⟨h1, h2⟩ := hartT_bwd (numsR_b hb 32) h
  obtain ⟨h3, h4⟩ := numsR_bwd hb 32 h1
  exact ⟨h3, h4.trans h2⟩
theorem hartsR_b : ∀ (f n : Nat) {s : Rd}, Bytes s.1 → Bytes (hartsR f n s).2.1
  | 0, _, _, h => h
  | f + 1, n, s, h => by
    unfold hartsR; split
    · exact h
    · exact hartsR_b f _ (hartR_b h)
theorem hartsR_wf : ∀ (f n : Nat) {s : Rd}, Bytes s.1 → ∀ h ∈ (hartsR f n s).1, h.Wf
  | 0, _, _, _ => by intro h hh; cases hh
  | f + 1, n, s, hb => by
    intro h hh
    unfold hartsR at hh
    split at hh
    · cases hh
    · rcases List.mem_cons.1 hh with rfl | hh
      · exact hartR_wf hb
      · exact hartsR_wf f _ (hartR_b hb) h hh
theorem hartsR_fwd : ∀ {hs : List Hart} (_ : ∀ h ∈ hs, h.Wf ∧ h.ok = true) (f : Nat) (_ : hs.length ≤ f) (r : List Int), hartsR f hs.length (hs.flatMap hbytes ++ r, false) = (hs, r, false)
  | [], _, 0, _, r => by simp [hartsR]
  | [], _, f + 1, _, r => by simp [hartsR]
  | h :: t, hw, 0, hf, r => by simp at hf
  | h :: t, hw, f + 1, hf, r => by
    have h1 := hw h (by simp)
    unfold hartsR
    rw [if_neg (by simp), List.flatMap_cons, List.append_assoc, hartR_fwd h1.1 h1.2]
    dsimp only
    rw [show (h :: t).length - 1 = t.length by simp, hartsR_fwd (fun x hx => hw x (by simp [hx])) f (by simpa using hf) r]
theorem hartsR_bwd : ∀ (f n : Nat) {s : Rd}, Bytes s.1 → (hartsR f n s).2.2 = false → s.2 = false ∧ s.1 = (hartsR f n s).1.flatMap hbytes ++ (hartsR f n s).2.1 ∧ (hartsR f n s).1.length = min f n
  | 0, n, s, _, h => ⟨h, by simp [hartsR], by simp [hartsR]⟩
  | f + 1, n, s, hb, h => by
    unfold hartsR at h ⊢
    split
    · rename_i hc
      rw [if_pos hc] at h
      refine ⟨h, by simp, ?_⟩
      rcases hc with rfl | hc
      · simp
      · rw [show s.2 = false from h] at hc; cases hc
    · rename_i hc
      rw [if_neg hc] at h
      dsimp only at h ⊢
      obtain ⟨h1, h2, h3⟩ := hartsR_bwd f (n - 1) (hartR_b hb) h
      obtain ⟨h4, h5⟩ := hartR_bwd hb h1
      refine ⟨h4, ?_, ?_⟩
      · rw [List.flatMap_cons, List.append_assoc, ← h2]; exact h5
      · rw [List.length_cons, h3]; omega
theorem getR_wf {b : List Int} (hb : Bytes b) : (getR b).1.Wf := by
  have b1 := numR_b (s := (b, false)) hb
  have b2 : Bytes (takeR (numR (b, false)).1.toNat (numR (b, false)).2).2.1 := by
    unfold takeR; split
    · exact b1
    · exact b1.drop _
  unfold getR
  refine ⟨?_, hartsR_wf 5 _ (numR_b b2)⟩
  show Bytes (takeR _ _).1
  unfold takeR; split
  · intro x hx; cases hx
  · exact b1.take _
/-- what is read whole, and may be, has just these bytes -/
theorem getR_bwd {b : List Int} (hb : Bytes b) (h : getOk b = true) : isM b (getR b).1 := by
  have hwf := getR_wf hb
  unfold getOk at h
  simp only [Bool.and_eq_true, Bool.not_eq_true', beq_iff_eq, List.isEmpty_iff] at h
  obtain ⟨⟨h1, h2⟩, h3⟩ := h
  refine ⟨hwf, h3, ?_⟩
  obtain ⟨w1, w2, w3⟩ := wrong_mem h3
  have b1 := numR_b (s := (b, false)) hb
  have b2 : Bytes (takeR (numR (b, false)).1.toNat (numR (b, false)).2).2.1 := by
    unfold takeR; split
    · exact b1
    · exact b1.drop _
  have b3 := numR_b b2
  unfold getR at h1 h2 w1 w2 w3 ⊢
  dsimp only at h1 h2 w1 w2 w3 ⊢
  obtain ⟨e1, e2, e3⟩ := hartsR_bwd 5 _ b3 h1
  obtain ⟨d1, d2, d3⟩ := numR_bwd b2 e1
  have c1 : (numR (b, false)).2.2 = false ∧ ¬ (numR (b, false)).2.1.length < (numR (b, false)).1.toNat := by
    unfold takeR at d1
    split at d1
    · cases d1
    · rename_i hc
      exact ⟨by cases e : (numR (b, false)).2.2 <;> simp_all, by omega⟩
  obtain ⟨a1, a2, a3⟩ := numR_bwd (s := (b, false)) hb c1.1
  have tk : takeR (numR (b, false)).1.toNat (numR (b, false)).2 = ((numR (b, false)).2.1.take (numR (b, false)).1.toNat, (numR (b, false)).2.1.drop (numR (b, false)).1.toNat, false) := by
    unfold takeR; rw [if_neg (by rw [c1.1]; simp; omega)]
  unfold mbytes
  dsimp only
  have l1 : ((takeR (numR (b, false)).1.toNat (numR (b, false)).2).1.length : Int) = (numR (b, false)).1 := by
    rw [tk]; unfold U32 at a3; rw [List.length_take]; omega
  rw [l1]
  have l2 : ((hartsR 5 (numR (takeR (numR (b, false)).1.toNat (numR (b, false)).2).2).1.toNat (numR (takeR (numR (b, false)).1.toNat (numR (b, false)).2).2).2).1.length : Int) = (numR (takeR (numR (b, false)).1.toNat (numR (b, false)).2).2).1 := by
    unfold U32 at d3; omega
  rw [l2]
  rw [h2, List.append_nil] at e2
  rw [← e2, List.append_assoc, List.append_assoc, ← d2, tk]
  show quad _ ++ (_ ++ _) = _
  rw [List.take_append_drop, ← a2]
/-- the bytes of a machine that may be are read as it -/
theorem getR_fwd {m : Mach} (wf : m.Wf) (hw : wrong m [] = 0) : getR (mbytes m) = (m, [], false) := by
  obtain ⟨h1, h2, h3⟩ := wrong_mem hw
  have e : mbytes m = quad m.mem.length ++ (m.mem ++ (quad m.harts.length ++ (m.harts.flatMap hbytes ++ []))) := by simp [mbytes]
  rw [e]
  unfold getR
  rw [numR_fwd (by unfold U32; omega)]
  dsimp only
  have tk : takeR (m.mem.length : Int).toNat (m.mem ++ (quad m.harts.length ++ (m.harts.flatMap hbytes ++ [])), false) = (m.mem, quad m.harts.length ++ (m.harts.flatMap hbytes ++ []), false) := by
    unfold takeR
    rw [if_neg (by simp), Int.toNat_natCast]
    simp
  rw [tk]
  dsimp only
  rw [numR_fwd (by unfold U32; omega)]
  dsimp only
  rw [Int.toNat_natCast, hartsR_fwd (fun h hh => ⟨wf.harts h hh, wrong_harts hw h hh⟩) 5 (by omega) []]
theorem getS_ok {b : List Int} (hb : Bytes b) : getS b = if getOk b = true then ((getR b).1, 0) else (⟨[], []⟩, 2) := by
  by_cases h : getOk b = true
  · rw [if_pos h]; exact getS_yes (getR_bwd hb h)
  · rw [if_neg h]
    refine getS_no fun m hm => h ?_
    obtain ⟨wf, hw, rfl⟩ := hm
    unfold getOk
    rw [getR_fwd wf hw]
    simp [hw]
end Go.Proofs.Ytlfnddmncbkjaaa.Fb

/- The reader of bytes, in memory. No program in sight. -/
namespace Go.Proofs.Ytlfnddmncbkjaaa.Fb
set_option linter.unusedVariables false
set_option linter.unusedSimpArgs false
open Go.RowKit
/-- the reader at rp: what is left, and whether it is bad -/
structure RdAt (rp : Nat) (w : World) (s : Rd) : Prop where
  v : ∃ v, w.cell? ⟨rp, 0, none⟩ = some v ∧ Ints .u8 w v s.1 ∧ (s.1 ≠ [] → ∀ k, v.ownBlock = some k → k < rp)
  bad : w.cell? ⟨rp, 1, none⟩ = some (.bool s.2)
  frz : ∀ o, w.frozen? ⟨rp, o, none⟩ = false
  lt : rp < w.heap.size
theorem RdAt.below {rp : Nat} {w w' : World} {s : Rd} (h : RdAt rp w s) (hb : Below w.heap.size w w') : RdAt rp w' s := by
  obtain ⟨v, h1, h2, h3⟩ := h.v
  have e := hb.block rp h.lt
  exact ⟨⟨v, (cell_block e _).trans h1, h2.below hb, h3⟩, (cell_block e _).trans h.bad, fun o => (frozen_block e o).trans (h.frz o), Nat.lt_of_lt_of_le h.lt hb.size⟩
theorem ints_set {k : IntKind} {w : World} {v : Value} {l : List Int} {rp : Nat} (h : Ints k w v l) (hn : l ≠ [] → ∀ k, v.ownBlock = some k → k < rp) {p : Addr} (hp : rp ≤ p.block) (u : Value) : Ints k (w.setCell p u) v l := by
  by_cases hl : l = []
  · subst hl
    obtain ⟨h1, ao, cap, h2, h3, h4, h5, h6⟩ := h
    exact ⟨h1, ao, cap, h2, h3, h4, h5, fun a _ hx => absurd rfl hx⟩
  · exact Sl.set_other h (fun b off n c e => by have := hn hl b (by rw [e]; rfl); omega) u
theorem RdAt.setBad {rp : Nat} {w : World} {s : Rd} (h : RdAt rp w s) (b : Bool) : RdAt rp (w.setCell ⟨rp, 1, none⟩ (.bool b)) (s.1, b) := by
  obtain ⟨v, h1, h2, h3⟩ := h.v
  exact ⟨⟨v, (World.cell?_setCell_other _ _ _ _ (by intro e; injection e with _ e2; omega)).trans h1, ints_set h2 h3 (Nat.le_refl _) _, h3⟩, World.cell?_setCell_same _ _ _ h.bad, fun o => (World.frozen?_setCell _ _ _ _).trans (h.frz o), by simpa using h.lt⟩
theorem RdAt.setV {rp : Nat} {w : World} {s : Rd} (h : RdAt rp w s) {v : Value} {l : List Int} (hv : Ints .u8 w v l) (hn : l ≠ [] → ∀ k, v.ownBlock = some k → k < rp) : RdAt rp (w.setCell ⟨rp, 0, none⟩ v) (l, s.2) := by
  obtain ⟨v0, h1, h2, h3⟩ := h.v
  exact ⟨⟨v, World.cell?_setCell_same _ _ _ h1, ints_set hv hn (Nat.le_refl _) _, hn⟩, (World.cell?_setCell_other _ _ _ _ (by intro e; injection e with _ e2; omega)).trans h.bad, fun o => (World.frozen?_setCell _ _ _ _).trans (h.frz o), by simpa using h.lt⟩
theorem chg_set {w0 w : World} {rp : Nat} (h : Chg (fun p => p.block = rp) w0 w) (o : Nat) (u : Value) : Chg (fun p => p.block = rp) w0 (w.setCell ⟨rp, o, none⟩ u) :=
  ⟨h.os, h.tape, h.output, by simpa using h.size, fun k hk hn => (Below.heap_setCell _ _ _ _ (by show k ≠ rp; intro e; exact hn 0 e)).trans (h.block k hk hn), fun p hp hn => (World.cell?_setCell_other _ _ _ _ (by intro e; exact hn (by rw [← e]))).trans (h.cell p hp hn), fun p hp => (World.frozen?_setCell _ _ _ _).trans (h.frozen p hp)⟩
/-- a slice cut at n: the first part, and the rest -/
theorem Ints.cut {k : IntKind} {w : World} {ao : Option Addr} {cap : Nat} {l : List Int} (h : Ints k w (.slice ao l.length cap) l) (n : Nat) (hn : n ≤ l.length) : Ints k w (.slice ao n cap) (l.take n) := by
  obtain ⟨h1, ao', cap', h2, h3, h4, h5, h6⟩ := h
  cases h2
  refine ⟨by simp, ao, cap, by rw [List.length_take, Nat.min_eq_left hn], by rw [List.length_take]; omega, h4, h5, fun a ha hx => ?_⟩
  have hne : l.map (Value.int k) ≠ [] := by intro e; rw [List.map_eq_nil_iff] at e; subst e; simp at hx
  obtain ⟨h7, h8⟩ := h6 a ha hne
  refine ⟨h7, fun j hj => ?_⟩
  rw [List.length_map, List.length_take] at hj
  rw [h8 j (by rw [List.length_map]; omega)]
  simp
theorem Ints.rest {k : IntKind} {w : World} {b off cap : Nat} {l : List Int} (h : Ints k w (.slice (some ⟨b, off, none⟩) l.length cap) l) (n : Nat) (hn : n ≤ l.length) : Ints k w (.slice (some ⟨b, off + n, none⟩) (l.length - n) (cap - n)) (l.drop n) := by
  obtain ⟨h1, ao', cap', h2, h3, h4, h5, h6⟩ := h
  cases h2
  refine ⟨by simp, _, cap - n, by rw [List.length_drop], by rw [List.length_drop]; omega, by unfold maxLen at *; omega, (by intro e; cases e), fun a ha hx => ?_⟩
  cases ha
  have hne : l.map (Value.int k) ≠ [] := by intro e; rw [List.map_eq_nil_iff] at e; subst e; simp at hx
  obtain ⟨h7, h8⟩ := h6 _ rfl hne
  refine ⟨rfl, fun j hj => ?_⟩
  rw [List.length_map, List.length_drop] at hj
  have := h8 (n + j) (by rw [List.length_map]; omega)
  rw [show off + n + j = off + (n + j) by omega]
  rw [this]
  simp
theorem Ints.empty {k : IntKind} {w : World} (ao : Option Addr) (cap : Nat) (h1 : cap ≤ maxLen) (h2 : ao = none → cap = 0) : Ints k w (.slice ao 0 cap) [] :=
  ⟨rfl, ao, cap, rfl, Nat.zero_le _, h1, h2, fun a _ hx => absurd rfl hx⟩
end Go.Proofs.Ytlfnddmncbkjaaa.Fb

/- A hart in a box, and cells behind which it is handed back. No program in sight. -/
namespace Go.Proofs.Ytlfnddmncbkjaaa.Fb
set_option linter.unusedVariables false
set_option linter.unusedSimpArgs false
open Go.RowKit
structure HB (B R : Nat) (w : World) (h : Hart) : Prop where
  at_ : At w B 0 (hlist h)
  frz : ∀ o, w.frozen? ⟨B, o, none⟩ = false
  there : w.there R 0 37
  len : h.regs.length = 32
theorem HB.lt {B R : Nat} {w : World} {h : Hart} (k : HB B R w h) : B < w.heap.size := by
  have := k.at_ 0 (by rw [hlist_len k.len]; omega)
  exact lt_of_cell this
theorem HB.rlt {B R : Nat} {w : World} {h : Hart} (k : HB B R w h) : R < w.heap.size := by
  have := (k.there 0 (by omega)).1
  cases e : w.cell? ⟨R, 0 + 0, none⟩ with
  | none => rw [e] at this; cases this
  | some v => exact lt_of_cell e
theorem HB.set {B R : Nat} {w : World} {h h' : Hart} (k : HB B R w h) (j : Nat) (v : Value) (hj : j < 37) (hl : hlist h' = (hlist h).set j v) (hl2 : h'.regs.length = 32) : HB B R (w.setCell ⟨B, j, none⟩ v) h' :=
  ⟨by rw [hl]; have := k.at_.set j (by rw [hlist_len k.len]; exact hj) v; simpa using this, fun o => (World.frozen?_setCell _ _ _ _).trans (k.frz o), there_setCell k.there _ rfl _, hl2⟩
theorem HB.get {B R : Nat} {w : World} {h : Hart} (k : HB B R w h) {j : Nat} {v : Value} (hj : (hlist h)[j]? = some v) : w.cell? ⟨B, j, none⟩ = some v := by
  have := k.at_.get hj
  simpa using this
theorem there_block {w w' : World} {R n : Nat} (h : w.there R 0 n) (e : w'.heap[R]? = w.heap[R]?) : w'.there R 0 n := fun j hj => ⟨by rw [cell_block e]; exact (h j hj).1, by rw [frozen_block e]; exact (h j hj).2⟩
theorem HB.move {B R : Nat} {w w' : World} {h : Hart} (k : HB B R w h) (e1 : w'.heap[B]? = w.heap[B]?) (e2 : w'.heap[R]? = w.heap[R]?) : HB B R w' h :=
  ⟨fun j hj => (cell_block e1 _).trans (k.at_ j hj), fun o => (frozen_block e1 o).trans (k.frz o), there_block k.there e2, k.len⟩
theorem HB.chg {B R rp : Nat} {w w' : World} {h : Hart} (k : HB B R w h) (hg : Chg (fun p => p.block = rp) w w') (h1 : B ≠ rp) (h2 : R ≠ rp) : HB B R w' h :=
  k.move (hg.block B k.lt (fun _ e => h1 e)) (hg.block R k.rlt (fun _ e => h2 e))
theorem HB.begin (w : World) (t : TypeId) : HB (w.heap.size + 1) w.heap.size ((w.alloc (.cells (hcells hart0) t)).alloc (.cells (hcells hart0) t)) hart0 := by
  have hb : Below (w.heap.size + 1) (w.alloc (.cells (hcells hart0) t)) ((w.alloc (.cells (hcells hart0) t)).alloc (.cells (hcells hart0) t)) := Below.alloc (Below.refl _ _) (by simp) _
  have hz : (hcells hart0).size = 37 := rfl
  refine ⟨?_, fun o => ?_, fun j hj => ?_, rfl⟩
  · have := at_alloc (w.alloc (.cells (hcells hart0) t)) (hlist hart0) t (0, 0)
    rw [World.size_alloc] at this
    exact this
  · have := heap_alloc_new (w.alloc (.cells (hcells hart0) t)) (.cells (hcells hart0) t)
    have h2 : (w.alloc (.cells (hcells hart0) t)).heap.size = w.heap.size + 1 := by simp
    rw [h2] at this
    unfold World.frozen?
    rw [this]; simp
  · have e := hb.block w.heap.size (by omega)
    rw [heap_alloc_new] at e
    have hj2 : 0 + j < (hcells hart0).size := by omega
    exact ⟨by unfold World.cell?; rw [e]; simp; omega, by unfold World.frozen?; rw [e]; simp⟩
/-- a call that turns one block of those that were, behind cells laid in new ones -/
theorem chg_new {w0 w : World} {S : Addr → Prop} (h : Chg S w0 w) {p : Addr} (hp : w0.heap.size ≤ p.block) (u : Value) : Chg S w0 (w.setCell p u) :=
  ⟨h.os, h.tape, h.output, by simpa using h.size, fun k hk hn => (Below.heap_setCell _ _ _ _ (by omega)).trans (h.block k hk hn), fun q hq hn => (World.cell?_setCell_other _ _ _ _ (by intro e; rw [← e] at hq; omega)).trans (h.cell q hq hn), fun q hq => (World.frozen?_setCell _ _ _ _).trans (h.frozen q hq)⟩
theorem chg_news {w0 : World} {S : Addr → Prop} {b : Nat} (hp : w0.heap.size ≤ b) : ∀ (vs : List Value) (o : Nat) {w : World}, Chg S w0 w → Chg S w0 (w.setCells b o vs)
  | [], _, _, h => h
  | v :: r, o, _, h => chg_news hp r (o + 1) (chg_new h hp v)
/-- the reader, behind cells laid elsewhere -/
theorem RdAt.other {rp : Nat} {w : World} {s : Rd} (h : RdAt rp w s) {p : Addr} (hp : rp < p.block) (u : Value) : RdAt rp (w.setCell p u) s := by
  obtain ⟨v, h1, h2, h3⟩ := h.v
  have hne : ∀ o, (w.setCell p u).cell? ⟨rp, o, none⟩ = w.cell? ⟨rp, o, none⟩ := fun o => World.cell?_setCell_other _ _ _ _ (by intro e; rw [e] at hp; exact absurd hp (Nat.lt_irrefl _))
  exact ⟨⟨v, (hne _).trans h1, ints_set h2 h3 (Nat.le_of_lt hp) u, h3⟩, (hne _).trans h.bad, fun o => (World.frozen?_setCell _ _ _ _).trans (h.frz o), by simpa using h.lt⟩
theorem RdAt.others {rp b : Nat} {s : Rd} (hp : rp < b) : ∀ (vs : List Value) (o : Nat) {w : World}, RdAt rp w s → RdAt rp (w.setCells b o vs) s
  | [], _, _, h => h
  | v :: r, o, _, h => RdAt.others hp r (o + 1) (h.other (p := ⟨b, o, none⟩) hp v)
/-- a hart of which k registers are read -/
def partH (l : List Int) (k : Nat) : Hart := ⟨l ++ List.replicate (32 - k) 0, 0, false, 0, 0, 0⟩
theorem partH_set {l : List Int} {k : Nat} (hl : l.length = k) (hk : k < 32) (x : Int) : hlist (partH (l ++ [x]) (k + 1)) = (hlist (partH l k)).set k (.int .u32 x) := by
  have h2 : (partH l k).regs.set k x = (partH (l ++ [x]) (k + 1)).regs := by
    unfold partH
    dsimp only
    rw [List.set_append_right _ _ (by omega), hl, Nat.sub_self, show 32 - k = (32 - (k + 1)) + 1 by omega, List.replicate_succ]
    simp
  have := hlist_setReg (h := partH l k) (by simp [partH, hl]; omega) k hk x
  rw [← this, h2]
  rfl
end Go.Proofs.Ytlfnddmncbkjaaa.Fb

/- A machine that is read: its box. No program in sight. -/
namespace Go.Proofs.Ytlfnddmncbkjaaa.Fb
set_option linter.unusedVariables false
set_option linter.unusedSimpArgs false
open Go.RowKit
theorem owns_mono {B B' : Nat} {e : TypeId} {k : Nat} {v : Value} {n : Nat} {xs : List Value} {w : World} (h : w.ownsRow B e k v n xs) (hb : B' ≤ B) : w.ownsRow B' e k v n xs := by
  obtain ⟨h1, h2⟩ := h
  refine ⟨h1, ?_⟩
  rcases h2 with ⟨rfl, rfl⟩ | ⟨g, cap, cur, rfl, hB, hh, h3⟩
  · exact .inl ⟨rfl, rfl⟩
  · exact .inr ⟨g, cap, cur, rfl, Nat.le_trans hb hB, hh, h3⟩
/-- rows of two types lie in two blocks -/
theorem owns_apart {B B' : Nat} {e e' : TypeId} {k k' : Nat} {v v' : Value} {n n' : Nat} {xs xs' : List Value} {w : World} (h : w.ownsRow B e k v n xs) (h' : w.ownsRow B' e' k' v' n' xs') (hne : e ≠ e') : ∀ g, v.ownBlock = some g → v'.ownBlock ≠ some g := by
  intro g h1 h2
  rcases h.2 with ⟨rfl, _⟩ | ⟨g1, _, c1, rfl, _, e1, _⟩
  · cases h1
  rcases h'.2 with ⟨rfl, _⟩ | ⟨g2, _, c2, rfl, _, e2, _⟩
  · cases h2
  cases h1; cases h2
  rw [e1] at e2
  cases e2
  exact hne rfl
/-- the box at mp: the bytes, the harts -/
structure MB (mp : Nat) (t8 tH : TypeId) (vm vh : Value) (w : World) (mem : List Int) (hs : List Hart) : Prop where
  c0 : w.cell? ⟨mp, 0, none⟩ = some vm
  c1 : w.cell? ⟨mp, 1, none⟩ = some vh
  frz : ∀ o, w.frozen? ⟨mp, o, none⟩ = false
  own0 : w.ownsRow (mp + 1) t8 1 vm mem.length (mem.map (Value.int .u8))
  own1 : w.ownsRow (mp + 1) tH 37 vh hs.length (hs.flatMap hlist)
section
variable {mp : Nat} {t8 tH : TypeId} {vm vh : Value} {w w' : World} {mem : List Int} {hs : List Hart}
theorem MB.lt (h : MB mp t8 tH vm vh w mem hs) : mp < w.heap.size := lt_of_cell h.c0
theorem MB.move (h : MB mp t8 tH vm vh w mem hs) (hb : ∀ g, mp ≤ g → g < w.heap.size → w'.heap[g]? = w.heap[g]?) : MB mp t8 tH vm vh w' mem hs := by
  have e := hb mp (Nat.le_refl _) h.lt
  exact ⟨(cell_block e _).trans h.c0, (cell_block e _).trans h.c1, fun o => (frozen_block e o).trans (h.frz o), owns_block h.own0 (fun g hg => by have := h.own0.lt g hg; exact hb g (by omega) this.2), owns_block h.own1 (fun g hg => by have := h.own1.lt g hg; exact hb g (by omega) this.2)⟩
theorem MB.at (h : MB mp t8 tH vm vh w mem hs) : MachAt w vm vh ⟨mem, hs⟩ := ⟨owns_sl h.own0, owns_sl h.own1⟩
/-- a hart more -/
theorem MB.next {v' : Value} {x : Hart} (h : MB mp t8 tH vm vh w mem hs) (hne : t8 ≠ tH) (hown : w'.ownsRow (mp + 1) tH 37 v' (hs.length + 1) (hs.flatMap hlist ++ hlist x)) (hg : w.grownBy w' vh.ownBlock) : MB mp t8 tH vm v' (w'.setCell ⟨mp, 1, none⟩ v') mem (hs ++ [x]) := by
  have hfar : ∀ j, j < w.heap.size → vh.ownBlock ≠ some j → w'.heap[j]? = w.heap[j]? := fun j hj hn => hg.block j hj (fun e => hn e.symm)
  have e := hfar mp h.lt (fun e => by have := h.own1.lt _ e; omega)
  refine ⟨(World.cell?_setCell_other _ _ _ _ (by intro e; injection e with _ e2; omega)).trans ((cell_block e _).trans h.c0), World.cell?_setCell_same _ _ _ ((cell_block e _).trans h.c1), fun o => (World.frozen?_setCell _ _ _ _).trans ((frozen_block e o).trans (h.frz o)), ?_, ?_⟩
  · refine owns_block h.own0 (fun g hg' => ?_)
    have h1 := h.own0.lt g hg'
    exact (Below.heap_setCell _ _ _ _ (by show g ≠ mp; omega)).trans (hfar g h1.2 (owns_apart h.own0 h.own1 hne g hg'))
  · have := ownsRow_setCell_below hown (a := ⟨mp, 1, none⟩) (Nat.lt_succ_self mp) v'
    simpa using this
theorem grown_below {B : Nat} {v : Value} {e : TypeId} {s n : Nat} {xs : List Value} (h : w.ownsRow B e s v n xs) (hg : w.grownBy w' v.ownBlock) (hB : B ≤ w.heap.size) : Below B w w' :=
  ⟨hg.os, hg.tape, hg.output, hg.size, fun k hk => hg.block k (by omega) (fun e => by have := h.lt k e.symm; omega)⟩
end
/-- the reader, behind a call that turns nothing below it -/
theorem RdAt.far {rp B : Nat} {w w' : World} {s : Rd} (h : RdAt rp w s) (hb : Below B w w') (hlt : rp < B) : RdAt rp w' s := by
  obtain ⟨v, h1, h2, h3⟩ := h.v
  have e := hb.block rp hlt
  refine ⟨⟨v, (cell_block e _).trans h1, ?_, h3⟩, (cell_block e _).trans h.bad, fun o => (frozen_block e o).trans (h.frz o), Nat.lt_of_lt_of_le h.lt hb.size⟩
  obtain ⟨k1, ao, cap, k2, k3, k4, k5, k6⟩ := h2
  refine ⟨k1, ao, cap, k2, k3, k4, k5, fun a ha hx => ⟨(k6 a ha hx).1, fun j hj => ?_⟩⟩
  have hne : s.1 ≠ [] := fun e => hx (by rw [e]; rfl)
  have hbl := h3 hne a.block (by rw [k2, ha]; rfl)
  exact (cell_block (hb.block a.block (by omega)) _).trans ((k6 a ha hx).2 j hj)
/-- a round of image.Get: a hart is read, and laid behind the others -/
theorem get_round {R rp mp B : Nat} {t8 tH : TypeId} {vm vh v2 : Value} {w wr w6 w7 : World} {mem : List Int} {hs : List Hart} {x : Hart} {s' : Rd} {o : Obj} (hm : MB mp t8 tH vm vh wr mem hs) (hne : t8 ≠ tH) (h1 : R < rp) (h2 : rp < mp) (hBR : B ≤ R)
    (hB : Below B w wr) (hr : RdAt rp w6 s') (hg : Chg (fun p => p.block = rp) wr w6) (hown : w7.ownsRow (mp + 1) tH 37 v2 (hs.length + 1) (hs.flatMap hlist ++ hlist x)) (hgr : (w6.alloc o).grownBy w7 vh.ownBlock) :
    MB mp t8 tH vm v2 (w7.setCell ⟨mp, 1, none⟩ v2) mem (hs ++ [x]) ∧ RdAt rp (w7.setCell ⟨mp, 1, none⟩ v2) s' ∧ Below B w (w7.setCell ⟨mp, 1, none⟩ v2) ∧ (w7.setCell ⟨mp, 1, none⟩ v2).heap[R]? = wr.heap[R]? ∧ wr.heap.size ≤ (w7.setCell ⟨mp, 1, none⟩ v2).heap.size := by
  have hmp := hm.lt
  have hsz := hg.size
  have hlo : ∀ k, vh.ownBlock = some k → mp + 1 ≤ k := fun k e => (hm.own1.lt k e).1
  have hm6 : MB mp t8 tH vm vh w6 mem hs := hm.move (fun g hg1 hg2 => hg.block g hg2 (fun _ e => by have e2 : g = rp := e; omega))
  have ha : Below w6.heap.size w6 (w6.alloc o) := Below.alloc (Below.refl _ _) (Nat.le_refl _) _
  have hm6a : MB mp t8 tH vm vh (w6.alloc o) mem hs := hm6.move (fun g _ hg2 => ha.block g hg2)
  have hb67 : Below (mp + 1) w6 w7 := (ha.mono (by omega)).grown hgr (by simp; omega) hlo
  have hb6f : Below mp w6 (w7.setCell ⟨mp, 1, none⟩ v2) := (hb67.mono (Nat.le_succ _)).setCell (p := ⟨mp, 1, none⟩) (Nat.le_refl _) v2
  refine ⟨hm6a.next hne hown hgr, hr.far hb6f h2, ?_, ?_, ?_⟩
  · exact (hB.trans (hg.below (B := B) (by omega) (fun p hp e => by have e2 : p.block = rp := e; omega))).trans (hb6f.mono (by omega))
  · exact (hb6f.block R (by omega)).trans (hg.block R (by omega) (fun _ e => by have e2 : R = rp := e; omega))
  · have := hb6f.size; omega
/-- a slice literal of what is not taken apart, at a step of a region that draws its order -/
theorem step_buildS {P : Program} {w : World} {ops : Array Oper} {o : Oper} {a : Act} {K : Act → World → Prop} {Q : Exit → Act → World → Prop} {E : Prop} (hgd : o.guard = none) (t : TypeId) (len : Nat) (ps : Array (Nat × Operand)) (ho : o.op = .buildSlice t len ps) (vs : Array (Nat × Value)) (hv : (ps.map fun (i, x) => (i, a.eval x)) = vs)
    (v : Value) (w' : World) (hr : (Instr.buildSlice t len vs).run P w = .ok v w') (h : K (a.put o.dst v) w') :
    if Region.wanted o (yielded ops a.tmps) = true then Oper.wp P o a w K Q else E := by
  have hw : Region.wanted o (yielded ops a.tmps) = true := by simp [Region.wanted, hgd]
  rw [if_pos hw]
  unfold Oper.wp execOp
  simp only [ho, hv, Sem.run_bind, hr, Result.andThen_ok]
  exact h
/-- the same in a plain region -/
theorem wpList_buildS {P : Program} {w : World} {ops : Array Oper} {rest : List Oper} {o : Oper} {a : Act} {Q : Exit → Act → World → Prop} (hgd : o.guard = none) (t : TypeId) (len : Nat) (ps : Array (Nat × Operand)) (ho : o.op = .buildSlice t len ps) (vs : Array (Nat × Value)) (hv : (ps.map fun (i, x) => (i, a.eval x)) = vs)
    (v : Value) (w' : World) (hr : (Instr.buildSlice t len vs).run P w = .ok v w') (h : wpList P ops Q rest (a.put o.dst v) w') : wpList P ops Q (o :: rest) a w :=
  wpList_plain hgd fun K hK => by
    unfold Oper.wp execOp
    simp only [ho, hv, Sem.run_bind, hr, Result.andThen_ok]
    exact hK _ _ h
end Go.Proofs.Ytlfnddmncbkjaaa.Fb

/- A row of blocks of the call's own, each with instructions of the call's own. No program in sight. -/
namespace Go.Proofs.Ytlfnddmncbkjaaa.Fb
set_option linter.unusedVariables false
set_option linter.unusedSimpArgs false
open Go.RowKit
def BlkD.abs (x : BlkD) : Int × List InsD := (x.pc, x.ins)
structure Cp (B : Nat) (TB TI : TypeId) (w : World) (v : Value) (ys : List BlkD) : Prop where
  own : w.ownsRow B TB 2 v ys.length (ys.flatMap blist)
  pc : ∀ y ∈ ys, U32 y.pc
  row : ∀ y ∈ ys, w.ownsRow B TI 5 y.vi y.ins.length (y.ins.flatMap ilist)
section
variable {B : Nat} {TB TI : TypeId} {w w' : World} {v v' : Value} {ys : List BlkD} {y : BlkD}
theorem Cp.below (h : Cp B TB TI w v ys) (hb : Below w.heap.size w w') : Cp B TB TI w' v ys := ⟨owns_below h.own hb, h.pc, fun y hy => owns_below (h.row y hy) hb⟩
theorem Cp.mono (h : Cp B TB TI w v ys) {B' : Nat} (hb : B' ≤ B) : Cp B' TB TI w v ys := ⟨owns_mono h.own hb, h.pc, fun y hy => owns_mono (h.row y hy) hb⟩
theorem Cp.ok (h : Cp B TB TI w v ys) : ∀ y ∈ ys, BlkOk w y := fun y hy => ⟨owns_sl (h.row y hy), h.pc y hy⟩
theorem Cp.blks (h : Cp B TB TI w v ys) : Blks w v ys := ⟨owns_sl h.own, h.ok⟩
theorem Cp.set (h : Cp B TB TI w v ys) {p : Addr} (hp : p.block < B) (u : Value) : Cp B TB TI (w.setCell p u) v ys :=
  ⟨ownsRow_setCell_below h.own hp u, h.pc, fun y hy => ownsRow_setCell_below (h.row y hy) hp u⟩
theorem Cp.sets {b : Nat} (hb : b < B) : ∀ (vs : List Value) (o : Nat) {w : World}, Cp B TB TI w v ys → Cp B TB TI (w.setCells b o vs) v ys
  | [], _, _, h => h
  | u :: r, o, _, h => Cp.sets hb r (o + 1) (h.set (p := ⟨b, o, none⟩) hb u)
/-- one more -/
theorem Cp.snoc (hne : TB ≠ TI) (h : Cp B TB TI w v ys) (hp : U32 y.pc) (hy : w.ownsRow B TI 5 y.vi y.ins.length (y.ins.flatMap ilist)) (hown : w'.ownsRow B TB 2 v' (ys.length + 1) (ys.flatMap blist ++ blist y)) (hg : w.grownBy w' v.ownBlock) : Cp B TB TI w' v' (ys ++ [y]) := by
  have key : ∀ z : BlkD, w.ownsRow B TI 5 z.vi z.ins.length (z.ins.flatMap ilist) → w'.ownsRow B TI 5 z.vi z.ins.length (z.ins.flatMap ilist) := fun z hz =>
    owns_block hz (fun g e => hg.block g (hz.lt g e).2 (fun e2 => owns_apart h.own hz hne g e2.symm e))
  refine ⟨by simpa using hown, fun z hz => ?_, fun z hz => ?_⟩
  · rcases List.mem_append.1 hz with hz | hz
    · exact h.pc z hz
    · rw [List.mem_singleton] at hz; rw [hz]; exact hp
  · rcases List.mem_append.1 hz with hz | hz
    · exact key z (h.row z hz)
    · rw [List.mem_singleton] at hz; rw [hz]; exact key y hy
theorem blk1_one (h : w.ownsRow B TI 5 y.vi y.ins.length (y.ins.flatMap ilist)) : ∀ u ∈ blist y, u.oneCell' = true := by
  obtain ⟨ao, c, e⟩ := owns_slice h
  intro u hu
  simp only [blist, List.mem_cons, List.not_mem_nil, or_false] at hu
  rcases hu with rfl | rfl
  · rfl
  · rw [e]; rfl
end
theorem at_new2 (w : World) (a b : Value) (t : TypeId) : Sl (w.alloc (.cells #[a, b] t)) (.slice (some ⟨w.heap.size, 0, none⟩) 1 1) 2 1 [a, b] :=
  ⟨rfl, _, 1, rfl, Nat.le_refl _, by decide, (by intro e; cases e), fun x hx _ => by cases hx; exact ⟨rfl, at_alloc w [a, b] t (0, 0)⟩⟩
end Go.Proofs.Ytlfnddmncbkjaaa.Fb

/- What a run shows, in memory. No program in sight. -/
namespace Go.Proofs.Ytlfnddmncbkjaaa.Fb
set_option linter.unusedVariables false
set_option linter.unusedSimpArgs false
open Go.RowKit
/-- what a run shows, in memory -/
structure ShownAt (w : World) (vm vh vo : Value) (s : St) : Prop where
  mach : MachAt w vm vh s.mach
  out : Ints .u32 w vo s.out
theorem shown_nil (w : World) (n : Nat) : ShownAt w (.slice none 0 0) (.slice none 0 0) (.slice none 0 0) ⟨[], [], [], n⟩ :=
  have h : ∀ (s : Nat), Sl w (.slice none 0 0) s 0 [] := fun s => ⟨by simp, none, 0, rfl, Nat.zero_le _, by decide, fun _ => rfl, fun a ha => by cases ha⟩
  ⟨⟨h 1, h 37⟩, h 1⟩
theorem ShownAt.setCells {w : World} {vm vh vo : Value} {s : St} (h : ShownAt w vm vh vo s) {b : Nat} (h1 : ∀ k, vm.ownBlock = some k → b < k) (h2 : ∀ k, vh.ownBlock = some k → b < k) (h3 : ∀ k, vo.ownBlock = some k → b < k) (o : Nat) (vs : List Value) : ShownAt (w.setCells b o vs) vm vh vo s :=
  ⟨⟨sl_setCells (fun b' off n c e => by have := h1 b' (by rw [e]; rfl); omega) _ _ _ h.mach.1, sl_setCells (fun b' off n c e => by have := h2 b' (by rw [e]; rfl); omega) _ _ _ h.mach.2⟩, sl_setCells (fun b' off n c e => by have := h3 b' (by rw [e]; rfl); omega) _ _ _ h.out⟩
theorem there_blk {w : World} {b n : Nat} {cs : Array Value} {t : TypeId} (h : w.heap[b]? = some (.cells cs t (0, 0))) (hn : cs.size = n) : w.there b 0 n := fun j hj => by
  have hj2 : 0 + j < cs.size := by omega
  exact ⟨by unfold World.cell?; rw [h]; simp; omega, by unfold World.frozen?; rw [h]; simp⟩
section
variable {bp bh hc cp k : Nat} {vm vo : Value} {ty : TypeId} {o0 o : List Int} {fr tw : Int} {w w' : World} {s : St}
theorem Bd.shown (h : Bd bp bh hc vm vo ty w s) (hw : ∀ x ∈ s.harts, x.Wf) : ShownAt w vm (.slice (some ⟨bh, 0, none⟩) s.harts.length hc) vo s := by
  refine ⟨⟨h.bytes, ?_, _, hc, rfl, h.hcap.1, h.hcap.2, (by intro e; cases e), fun a ha _ => ?_⟩, owns_sl h.own⟩
  · show (s.harts.flatMap hlist).length = s.harts.length * 37
    have : ∀ l : List Hart, (∀ x ∈ l, x.Wf) → (l.flatMap hlist).length = l.length * 37 := fun l => by
      induction l with
      | nil => intro _; rfl
      | cons x r ih =>
        intro hx
        rw [List.flatMap_cons, List.length_append, ih (fun y hy => hx y (by simp [hy])), hlist_length (hx x (by simp)), List.length_cons]
        omega
    exact this _ hw
  · cases ha
    exact ⟨rfl, h.harts⟩
/-- the hart has done: what came out of it lies behind what had come out -/
theorem Wk.finish {w1 w0 : World} {B z : Nat} {v3 : Value} (h : Wk bp bh hc cp k vm vo ty o0 o fr tw w s) (h3 : s.out = o0 ++ o) (hB : Below B w0 w) (hBb : B ≤ bp) (hz : z < bp)
    (hown : w1.ownsRow (bp + 1) ty 1 v3 (o0.length + o.length) (o0.map (Value.int .u32) ++ o.map (Value.int .u32))) (hg : w.drew.grownBy w1 vo.ownBlock) :
    Bd bp bh hc vm v3 ty (w1.setCell ⟨bp, 2, none⟩ v3) s ∧ Below B w0 (w1.setCell ⟨bp, 2, none⟩ v3) ∧ (w1.setCell ⟨bp, 2, none⟩ v3).heap[z]? = w.heap[z]? ∧ w.heap.size ≤ (w1.setCell ⟨bp, 2, none⟩ v3).heap.size := by
  have hbw := Nat.lt_trans h.b2 h.clt
  have hlo : ∀ g, vo.ownBlock = some g → bp + 1 ≤ g := fun g e => (h.own.lt g e).1
  have hbd := (h.below (w' := w.drew) (Below.drew (Below.refl _ _))).stop hown hg
  have e3 : ({ s with out := o0 ++ o } : St) = s := by rw [← h3]
  rw [e3] at hbd
  have hsz : w.heap.size ≤ w1.heap.size := hg.size
  refine ⟨hbd, (hB.drew.grown hg (by show B ≤ w.heap.size; omega) (fun g e => by have := hlo g e; omega)).setCell (p := ⟨bp, 2, none⟩) hBb _, ?_, by simpa using hsz⟩
  exact (Below.heap_setCell _ _ _ _ (by show z ≠ bp; omega)).trans (hg.block z (by show z < w.heap.size; omega) (fun e => by have := hlo _ e.symm; omega))
theorem Wk.any (h : Wk bp bh hc cp k vm vo ty o0 o fr tw w s) (x : List Int) : Wk bp bh hc cp k vm vo ty o0 o fr tw w { s with out := x } :=
  ⟨h.core, h.b1, h.b2, h.c0, h.c1, h.c2, h.c3, h.frz, h.harts, h.mlt, h.own, h.vlt, h.kl, h.hcap⟩
end
end Go.Proofs.Ytlfnddmncbkjaaa.Fb

/- The document's board begins, its parts as a walk wants them. No program in sight. -/
namespace Go.Proofs.Ytlfnddmncbkjaaa.Fb
set_option linter.unusedVariables false
set_option linter.unusedSimpArgs false
open Go.RowKit
theorem PB.begin {w : World} {B bp bh hc : Nat} {vm x : Value} {t ty : TypeId} {m : Mach} (b1 : bp < B) (b2 : bp < bh) (c0 : w.cell? ⟨bp, 0, none⟩ = some vm) (c1 : w.cell? ⟨bp, 1, none⟩ = some x) (c2 : w.cell? ⟨bp, 2, none⟩ = some (.slice none 0 0)) (c3 : w.cell? ⟨bp, 3, none⟩ = some (.int .i64 0))
    (frz : ∀ o, w.frozen? ⟨bp, o, none⟩ = false) (hm : w.ownsRow B t 1 vm m.mem.length (m.mem.map (Value.int .u8))) (hvm : ∀ k, vm.ownBlock = some k → k ≠ bh) (hat : At w bh 0 (m.harts.flatMap hlist)) (hlt : bh < w.heap.size) (hfz : ∀ o, w.frozen? ⟨bh, o, none⟩ = false) (hcap : m.harts.length ≤ hc ∧ hc ≤ maxLen) :
    PB bp bh hc vm (.slice none 0 0) ty (w.setCell ⟨bp, 1, none⟩ (.slice (some ⟨bh, 0, none⟩) m.harts.length hc)) (startM m) := by
  have hc : ∀ j, j ≠ 1 → (w.setCell ⟨bp, 1, none⟩ (.slice (some ⟨bh, 0, none⟩) m.harts.length hc)).cell? ⟨bp, j, none⟩ = w.cell? ⟨bp, j, none⟩ := fun j hj => World.cell?_setCell_other _ _ _ _ (by intro e; injection e with _ e2; omega)
  refine ⟨b2, (hc 0 (by omega)).trans c0, World.cell?_setCell_same _ _ _ c1, (hc 2 (by omega)).trans c2, (hc 3 (by omega)).trans c3, fun o => (World.frozen?_setCell _ _ _ _).trans (frz o), hat.set_other (by show bp ≠ bh; omega) _, by simpa using hlt, fun o => (World.frozen?_setCell _ _ _ _).trans (hfz o), ?_, fun _ k e => ⟨?_, hvm k e, by intro e2; cases e2⟩, World.ownsRow_nil _ _ _ _, hcap⟩
  · exact ints_move (by have := owns_sl hm; unfold Ints; exact this) (fun _ g hg => Below.heap_setCell _ _ _ _ (by show g ≠ bp; have := hm.lt g hg; omega))
  · have := hm.lt k e; omega
theorem cell_at {w : World} {b : Nat} {cs : Array Value} {t : TypeId} {m : Nat × Nat} (h : w.heap[b]? = some (.cells cs t m)) {o : Nat} {v : Value} (hv : cs[o]? = some v) : w.cell? ⟨b, o, none⟩ = some v := by
  simp [World.cell?, h, hv]
section
variable {bp bh hc : Nat} {vm vo : Value} {ty : TypeId} {w : World} {s : St}
theorem PB.shown (h : PB bp bh hc vm vo ty w s) (hw : ∀ x ∈ s.harts, x.Wf) : ShownAt w vm (.slice (some ⟨bh, 0, none⟩) s.harts.length hc) vo s := by
  refine ⟨⟨h.bytes, ?_, _, hc, rfl, h.hcap.1, h.hcap.2, (by intro e; cases e), fun a ha _ => ?_⟩, owns_sl h.own⟩
  · exact flatMap_length hlist 37 (fun x hx => hlist_length (hw x hx))
  · cases ha
    exact ⟨rfl, h.harts⟩
theorem PB.hart (h : PB bp bh hc vm vo ty w s) (wf : s.Wf) {k : Nat} (hk : k < s.harts.length) : At w bh (k * 37) (hlist (s.hart k)) := by
  rw [St.hart_at hk]
  exact at_hart h.harts (fun x hx => hlist_length (wf.harts x hx)) hk
end
theorem heap_setCells {b j : Nat} (hj : j ≠ b) : ∀ (vs : List Value) (o : Nat) (w : World), (w.setCells b o vs).heap[j]? = w.heap[j]?
  | [], _, _ => rfl
  | v :: r, o, w => by rw [World.setCells, heap_setCells hj r]; exact Below.heap_setCell _ _ _ _ (by show j ≠ b; exact hj)
theorem at_set_all {w : World} {b o : Nat} {vs : List Value} (h : w.there b o vs.length) : At (w.setCells b o vs) b o vs := fun j hj =>
  World.rangeAt_setCells_same w b o vs h j vs[j] (by simp [hj])
theorem PB.far {bp bh hc b : Nat} {vm vo : Value} {ty : TypeId} {w : World} {s : St} (h : PB bp bh hc vm vo ty w s) (hb : b < bp) (o : Nat) (vs : List Value) : PB bp bh hc vm vo ty (w.setCells b o vs) s := by
  have b1 := h.b1
  have hk : ∀ g, bp ≤ g → (w.setCells b o vs).heap[g]? = w.heap[g]? := fun g hg => heap_setCells (by omega) _ _ _
  exact ⟨h.b1, (cell_block (hk bp (Nat.le_refl _)) _).trans h.c0, (cell_block (hk bp (Nat.le_refl _)) _).trans h.c1, (cell_block (hk bp (Nat.le_refl _)) _).trans h.c2, (cell_block (hk bp (Nat.le_refl _)) _).trans h.c3, fun o => (frozen_block (hk bp (Nat.le_refl _)) o).trans (h.frz o), fun j hj => (cell_block (hk bh (by omega)) _).trans (h.harts j hj), by simpa [size_setCells] using h.hlt, fun o => (frozen_block (hk bh (by omega)) o).trans (h.hfz o), ints_move h.bytes (fun hne g hg => hk g (by have := (h.mlt hne g hg).1; omega)), h.mlt, owns_block h.own (fun g hg => hk g (by have := (h.own.lt g hg).1; omega)), h.hcap⟩
/-- what a step did, laid into a box -/
theorem DidOf.lay {w : World} {d : DidD} {c : CoreD} (h : DidOf w d c) (ok : d.Ok) {bd : Nat} (hm : c.m ≠ [] → ∀ g, d.vm.ownBlock = some g → g ≠ bd) (ho : c.out ≠ [] → ∀ g, d.vo.ownBlock = some g → g ≠ bd) (ht : w.there bd 0 41) :
    DidOf (w.setCells bd 0 (dlist d)) d c ∧ At (w.setCells bd 0 (dlist d)) bd 0 (dlist d) :=
  ⟨⟨h.h, ints_move h.m (fun hne g hg => heap_setCells (hm hne g hg) _ _ _), ints_move h.o (fun hne g hg => heap_setCells (ho hne g hg) _ _ _), h.fr, h.many⟩, at_set_all (by rw [dlist_len ok]; exact ht)⟩
end Go.Proofs.Ytlfnddmncbkjaaa.Fb

/- A row of the call's own that is written in the middle, cleared, cut. No program in sight. -/
namespace Go.Proofs.Ytlfnddmncbkjaaa.Fb
set_option linter.unusedVariables false
set_option linter.unusedSimpArgs false
open Go.RowKit
/-- block g is a row of so many elements, s cells each, none frozen -/
def Shape (w : World) (g : Nat) (t : TypeId) (n : Nat) : Prop := ∃ cur : Array Value, w.heap[g]? = some (.cells cur t (0, 0)) ∧ cur.size = n
section
variable {w w' : World} {g : Nat} {t : TypeId} {n : Nat}
theorem Shape.lt (h : Shape w g t n) : g < w.heap.size := by obtain ⟨cur, e, _⟩ := h; exact (Array.getElem?_eq_some_iff.1 e).1
theorem Shape.block (h : Shape w g t n) (e : w'.heap[g]? = w.heap[g]?) : Shape w' g t n := by obtain ⟨cur, h1, h2⟩ := h; exact ⟨cur, e.trans h1, h2⟩
theorem Shape.setCell (h : Shape w g t n) (p : Addr) (u : Value) : Shape (w.setCell p u) g t n := by
  by_cases e : g = p.block
  · subst e
    obtain ⟨cur, h1, h2⟩ := h
    cases hs : p.spot with
    | none => exact ⟨cur.setIfInBounds p.off u, by simp [World.setCell, Array.getElem?_modify, hs, h1], by simpa using h2⟩
    | some s => exact ⟨cur, by simp [World.setCell, Array.getElem?_modify, hs, h1], h2⟩
  · exact h.block (Below.heap_setCell _ _ _ _ e)
theorem Shape.setCells (b : Nat) : ∀ (vs : List Value) (o : Nat) {w : World}, Shape w g t n → Shape (w.setCells b o vs) g t n
  | [], _, _, h => h
  | v :: r, o, _, h => Shape.setCells b r (o + 1) (h.setCell ⟨b, o, none⟩ v)
theorem Shape.frozen (h : Shape w g t n) (o : Nat) : w.frozen? ⟨g, o, none⟩ = false := by obtain ⟨cur, h1, _⟩ := h; simp [World.frozen?, h1]
theorem Shape.isSome (h : Shape w g t n) {o : Nat} (ho : o < n) : (w.cell? ⟨g, o, none⟩).isSome = true := by obtain ⟨cur, h1, h2⟩ := h; simp [World.cell?, h1]; omega
theorem Shape.there (h : Shape w g t n) {o m : Nat} (ho : o + m ≤ n) : w.there g o m := fun j hj => ⟨h.isSome (by omega), h.frozen _⟩
theorem Shape.owns {B s k cap : Nat} {xs : List Value} (h : Shape w g t (cap * s)) (hat : At w g 0 xs) (hl : xs.length = k * s) (hk : k ≤ cap) (hc : cap ≤ maxLen) (hB : B ≤ g) : w.ownsRow B t s (.slice (some ⟨g, 0, none⟩) k cap) k xs := by
  obtain ⟨cur, h1, h2⟩ := h
  refine ⟨hl, .inr ⟨g, cap, cur, rfl, hB, h1, hk, hc, h2, ?_⟩⟩
  have hks : k * s ≤ cap * s := Nat.mul_le_mul_right s hk
  refine List.ext_getElem (by simp [hl]; omega) (fun i h3 h4 => ?_)
  have := hat i h4
  rw [Nat.zero_add] at this
  have hci : i < cur.size := by omega
  have h6 : w.cell? ⟨g, i, none⟩ = Option.some cur[i] := by simp [World.cell?, h1, hci]
  rw [h6] at this
  have h7 := Option.some.inj this
  simpa using h7
theorem shape_of {B s k : Nat} {v : Value} {xs : List Value} (h : w.ownsRow B t s v k xs) (hk : 0 < k) : ∃ cap, v = .slice (some ⟨v.ownBlock.getD 0, 0, none⟩) k cap ∧ B ≤ v.ownBlock.getD 0 ∧ k ≤ cap ∧ cap ≤ maxLen ∧ Shape w (v.ownBlock.getD 0) t (cap * s) ∧ At w (v.ownBlock.getD 0) 0 xs := by
  rcases owns_open h with ⟨_, e, _⟩ | ⟨g, cap, rfl, hB, hg, hn, hm, hat, _⟩
  · omega
  · obtain ⟨_, h2⟩ := h
    rcases h2 with ⟨e, _⟩ | ⟨g', cap', cur, e, _, h1, _, _, h4, _⟩
    · cases e
    · cases e
      exact ⟨cap, rfl, hB, hn, hm, ⟨cur, h1, h4⟩, hat⟩
end
theorem shape_apart {w : World} {g n B s k : Nat} {t t' : TypeId} {v : Value} {xs : List Value} (h : Shape w g t n) (h' : w.ownsRow B t' s v k xs) (hne : t ≠ t') : ∀ j, v.ownBlock = some j → j ≠ g := by
  intro j hj e
  subst e
  obtain ⟨cur, h1, _⟩ := h
  rcases h'.2 with ⟨rfl, _⟩ | ⟨g2, _, c2, rfl, _, e2, _⟩
  · cases hj
  · cases hj
    rw [h1] at e2
    cases e2
    exact hne rfl
/-- the row of blocks while some of them are thrown away: so many are looked at, those that are kept lie ahead -/
structure Dl (B : Nat) (TB TI : TypeId) (g cap : Nat) (w0 w : World) (ys : List BlkD) (kept : List BlkD) (j : Nat) : Prop where
  shape : Shape w g TB (cap * 2)
  front : At w g 0 (kept.flatMap blist)
  rest : ∀ q (hq : q < ys.length), j ≤ q → At w g (q * 2) (blist ys[q])
  row : ∀ y ∈ ys, w.ownsRow B TI 5 y.vi y.ins.length (y.ins.flatMap ilist)
  bel : Below B w0 w
section
variable {B : Nat} {TB TI : TypeId} {g cap j : Nat} {w0 w w' : World} {ys kept : List BlkD}
theorem Dl.begin {v : Value} (h : Cp B TB TI w v ys) (hl : 0 < ys.length) : ∃ g cap, v = .slice (some ⟨g, 0, none⟩) ys.length cap ∧ B ≤ g ∧ ys.length ≤ cap ∧ cap ≤ maxLen ∧ ∀ k, (hk : k ≤ ys.length) → Dl B TB TI g cap w w ys (ys.take k) k := by
  obtain ⟨cap, e, hB, hc, hm, hs, hat⟩ := shape_of h.own hl
  refine ⟨_, cap, e, hB, hc, hm, fun k hk => ⟨hs, ?_, fun q hq _ => ?_, h.row, Below.refl _ _⟩⟩
  · have : ys.flatMap blist = (ys.take k).flatMap blist ++ (ys.drop k).flatMap blist := by rw [← List.flatMap_append, List.take_append_drop]
    rw [this] at hat
    exact hat.append_left
  · have := At.elem blist 2 (fun _ _ => rfl) hat q hq
    simpa using this
theorem Dl.below (h : Dl B TB TI g cap w0 w ys kept j) (hB : B ≤ w.heap.size) (hb : Below w.heap.size w w') : Dl B TB TI g cap w0 w' ys kept j :=
  ⟨h.shape.block (hb.block g h.shape.lt), h.front.below hb, fun q hq hj => (h.rest q hq hj).below hb, fun y hy => owns_below (h.row y hy) hb, h.bel.trans (hb.mono hB)⟩
theorem Dl.skip (h : Dl B TB TI g cap w0 w ys kept j) : Dl B TB TI g cap w0 w ys kept (j + 1) := ⟨h.shape, h.front, fun q hq hj => h.rest q hq (by omega), h.row, h.bel⟩
theorem flat2_len : ∀ l : List BlkD, (l.flatMap blist).length = l.length * 2
  | [] => rfl
  | x :: r => by rw [List.flatMap_cons, List.length_append, flat2_len r, List.length_cons]; simp [blist]; omega
/-- one is kept -/
theorem Dl.keep (hne : TB ≠ TI) (hBg : B ≤ g) (h : Dl B TB TI g cap w0 w ys kept j) (x : BlkD) (hk : kept.length ≤ j) (hjc : j < cap) :
    Dl B TB TI g cap w0 ((w.setCell ⟨g, kept.length * 2, none⟩ (.int .u32 x.pc)).setCell ⟨g, kept.length * 2 + 1, none⟩ x.vi) ys (kept ++ [x]) (j + 1) := by
  have hs0 := h.shape.isSome (o := kept.length * 2) (by omega)
  have hs1 := h.shape.isSome (o := kept.length * 2 + 1) (by omega)
  obtain ⟨u0, hu0⟩ := Option.isSome_iff_exists.1 hs0
  obtain ⟨u1, hu1⟩ := Option.isSome_iff_exists.1 hs1
  have hoff : ∀ o, o ≠ kept.length * 2 → o ≠ kept.length * 2 + 1 → ((w.setCell ⟨g, kept.length * 2, none⟩ (.int .u32 x.pc)).setCell ⟨g, kept.length * 2 + 1, none⟩ x.vi).cell? ⟨g, o, none⟩ = w.cell? ⟨g, o, none⟩ := fun o h1 h2 => by
    rw [World.cell?_setCell_other _ _ _ _ (by intro e; injection e with _ e2; exact h2 e2.symm), World.cell?_setCell_other _ _ _ _ (by intro e; injection e with _ e2; exact h1 e2.symm)]
  refine ⟨(h.shape.setCell _ _).setCell _ _, ?_, fun q hq hj i hi => ?_, fun y hy => ?_, (h.bel.setCell (p := ⟨g, kept.length * 2, none⟩) hBg _).setCell (p := ⟨g, kept.length * 2 + 1, none⟩) hBg _⟩
  · rw [List.flatMap_append]
    refine At.append (fun i hi => ?_) ?_
    · have hl := flat2_len kept
      rw [hoff _ (by omega) (by omega)]
      exact h.front i hi
    · rw [flat2_len, Nat.zero_add]
      intro i hi
      have hi2 : i < 2 := hi
      match i, hi with
      | 0, _ => exact (World.cell?_setCell_other _ _ _ _ (by intro e; injection e with _ e2; omega)).trans (World.cell?_setCell_same _ _ _ hu0)
      | 1, _ => exact World.cell?_setCell_same _ _ _ ((World.cell?_setCell_other _ _ _ _ (by intro e; injection e with _ e2; omega)).trans hu1)
  · have hi2 : i < 2 := hi
    rw [hoff _ (by omega) (by omega)]
    exact h.rest q hq (by omega) i hi
  · refine owns_block (h.row y hy) (fun k hk => ?_)
    have := shape_apart h.shape (h.row y hy) hne k hk
    rw [Below.heap_setCell _ _ _ _ (by show k ≠ g; exact this), Below.heap_setCell _ _ _ _ (by show k ≠ g; exact this)]
theorem Dl.finish (hne : TB ≠ TI) (hBg : B ≤ g) (h : Dl B TB TI g cap w0 w ys kept j) (hsub : ∀ y ∈ kept, y ∈ ys) (hpc : ∀ y ∈ ys, U32 y.pc) (hk : kept.length ≤ cap) (hm : cap ≤ maxLen) (zs : List Value) :
    Cp B TB TI (w.setCells g (kept.length * 2) zs) (.slice (some ⟨g, 0, none⟩) kept.length cap) kept ∧ Below B w0 (w.setCells g (kept.length * 2) zs) := by
  refine ⟨⟨(Shape.setCells g zs _ h.shape).owns (fun i hi => ?_) (flat2_len _) hk hm hBg, fun y hy => hpc y (hsub y hy), fun y hy => owns_block (h.row y (hsub y hy)) (fun k hk => heap_setCells (shape_apart h.shape (h.row y (hsub y hy)) hne k hk) _ _ _)⟩, below_setCells hBg _ _ _ h.bel⟩
  have hl := flat2_len kept
  rw [World.cell?_setCells_out _ _ _ _ _ (fun _ hs => by left; show 0 + i < _; omega)]
  exact h.front i hi
end
/-- 'clear' of a row -/
theorem wpList_clear {P : Program} {ops : Array Oper} {rest : List Oper} {o : Oper} {a : Act} {w : World} {Q : Exit → Act → World → Prop} (hgd : o.guard = none) (x : Operand) (t e : TypeId)
    (ho : o.op = .call { callee := .builtin .clear, args := #[x], argTypes := #[t] }) (i : TypeInfo) (z : Value) (size : Nat) (ht : P.underlying t = some (.slice e)) (hi : P.info? e = some i) (hz : i.zero = some z) (hzs : z.cells.size = size)
    (hz1 : ∀ v ∈ z.cells.toList, v.oneCell' = true)
    (g off n c : Nat) (hx : a.eval x = .slice (some ⟨g, off, none⟩) n c) (hth : w.there g off (n * size))
    (h : ∀ zs : List Value, zs.length = n * size → wpList P ops Q rest (a.put o.dst (.tuple #[])) (w.setCells g off zs)) : wpList P ops Q (o :: rest) a w := by
  refine wpList_plain hgd fun K hK => ?_
  have hr : ∃ zs : List Value, zs.length = n * size ∧ (Builtin.clear_ #[t] o.type #[.slice (some ⟨g, off, none⟩) n c]).run P w = .ok (.tuple #[]) (w.setCells g off zs) := by
    by_cases h0 : n = 0
    · subst h0
      exact ⟨[], by simp, by simp [Builtin.clear_, run_underlying ht, World.setCells]⟩
    · have hone : ∀ v ∈ (Builtin.zeroCells z.cells n).toList, v.oneCell' = true := by
        intro v hv
        unfold Builtin.zeroCells at hv
        simp only [Array.toList_map, List.mem_map] at hv
        obtain ⟨j, _, rfl⟩ := hv
        have hpos : 0 < z.cells.size := by
          rcases Nat.eq_zero_or_pos z.cells.size with e | e
          · rename_i hj
            rw [e] at hj; simp at hj
          · exact e
        have hlt := Nat.mod_lt j hpos
        rw [getElem!_pos z.cells _ hlt]
        exact hz1 _ (by simp)
      have hsz : (Builtin.zeroCells z.cells n).toList.length = n * size := by simp [size_zeroCells, hzs]
      have hst := run_storeCells_cells (P := P) g off (Builtin.zeroCells z.cells n).toList 0 w (fun j hj => by simpa using (hth j (by omega)).1) (fun j hj => by simpa using (hth j (by omega)).2) hone
      refine ⟨_, hsz, ?_⟩
      obtain ⟨m, rfl⟩ : ∃ m, n = m + 1 := ⟨n - 1, by omega⟩
      simp [Builtin.clear_, run_underlying ht, zeroValue, typeInfo, hi, hz, hst]
  obtain ⟨zs, hl, hr⟩ := hr
  unfold Oper.wp execOp
  simp only [ho, resolve, invoke, builtin, Sem.run_bind, Sem.run_pure, Result.andThen_ok, List.map_toArray, List.map_cons, List.map_nil, hx, hr]
  exact hK _ _ (h zs hl)
end Go.Proofs.Ytlfnddmncbkjaaa.Fb

/- Where the slices of a row of blocks lie. No program in sight. -/
namespace Go.Proofs.Ytlfnddmncbkjaaa.Fb
set_option linter.unusedVariables false
set_option linter.unusedSimpArgs false
open Go.RowKit
/-- the slices lie at B or behind -/
def Far (B : Nat) (v : Value) (l : List BlkD) : Prop := (∀ q, v.ownBlock = some q → B ≤ q) ∧ ∀ x ∈ l, ∀ q, x.vi.ownBlock = some q → B ≤ q
theorem Cp.far {B : Nat} {TB TI : TypeId} {w : World} {v : Value} {ys : List BlkD} (h : Cp B TB TI w v ys) : Far B v ys := ⟨fun q e => (h.own.lt q e).1, fun x hx q e => ((h.row x hx).lt q e).1⟩
theorem Far.mono {B B' : Nat} {v : Value} {l : List BlkD} (h : Far B v l) (hb : B' ≤ B) : Far B' v l := ⟨fun q e => Nat.le_trans hb (h.1 q e), fun x hx q e => Nat.le_trans hb (h.2 x hx q e)⟩
end Go.Proofs.Ytlfnddmncbkjaaa.Fb

/- One element taken out of a row of blocks of the call's own. No program in sight. -/
namespace Go.Proofs.Ytlfnddmncbkjaaa.Fb
set_option linter.unusedVariables false
set_option linter.unusedSimpArgs false
open Go.RowKit
/-- append where there is room, from whatever cells, in a region that draws its order -/
theorem step_append_fit {P : Program} {w : World} {ops : Array Oper} {o : Oper} {a : Act} {K : Act → World → Prop} {Q : Exit → Act → World → Prop} {E : Prop} (hgd : o.guard = none) (s x : Operand) (t : TypeId)
    (ho : o.op = .call { callee := .builtin .append, args := #[s, x], argTypes := #[t, t] })
    (e : TypeId) (i : TypeInfo) (size : Nat) (ht : P.underlying t = some (.slice e)) (hi : P.info? e = some i) (hsize : i.size = size)
    (g n cap : Nat) (hs : a.eval s = .slice (some ⟨g, 0, none⟩) n cap)
    (ad : Addr) (m c : Nat) (news : List Value) (hx : a.eval x = .slice (some ad) m c) (hl : news.length = m * size) (hnews : ∀ j u, news[j]? = some u → w.cell? (ad.add j) = some u) (h1 : ∀ u ∈ news, u.oneCell' = true)
    (hroom : n + m ≤ cap) (r : Nat) (hr : n + m = r) (hth : w.there g (n * size) news.length)
    (h : K (a.put o.dst (.slice (some ⟨g, 0, none⟩) r cap)) (w.setCells g (n * size) news)) :
    if Region.wanted o (yielded ops a.tmps) = true then Oper.wp P o a w K Q else E := by
  have hw : Region.wanted o (yielded ops a.tmps) = true := by simp [Region.wanted, hgd]
  rw [if_pos hw]
  subst hsize
  subst hr
  have hrun := run_append_room_cells (P := P) w t o.type e i ht hi g 0 n cap ad m c news hl hnews h1 hroom (fun j hj => by rw [Nat.zero_add]; exact (hth j hj).1) (fun j hj => by rw [Nat.zero_add]; exact (hth j hj).2)
  rw [Nat.zero_add] at hrun
  unfold Oper.wp
  simp [execOp, ho, resolve, invoke, builtin, hs, hx, hrun, Result.andThen]
  exact h
section
variable {B : Nat} {TB TI : TypeId} {g cap k : Nat} {w : World} {ys : List BlkD} {v : Value}
theorem Cp.erase (hne : TB ≠ TI) (h : Cp B TB TI w (.slice (some ⟨g, 0, none⟩) ys.length cap) ys) (hBg : B ≤ g) (hk : k < ys.length) (hc : ys.length ≤ cap) (hm : cap ≤ maxLen) (hs : Shape w g TB (cap * 2)) (hat : At w g 0 (ys.flatMap blist)) (zs : List Value) :
    Cp B TB TI ((w.setCells g (k * 2) ((ys.drop (k + 1)).flatMap blist)).setCells g ((ys.length - 1) * 2) zs) (.slice (some ⟨g, 0, none⟩) (ys.length - 1) cap) (ys.eraseIdx k) ∧ Below B w ((w.setCells g (k * 2) ((ys.drop (k + 1)).flatMap blist)).setCells g ((ys.length - 1) * 2) zs) := by
  have hl2 : (ys.eraseIdx k).length = ys.length - 1 := by rw [List.length_eraseIdx]; simp [hk]
  have hln := flat2_len (ys.drop (k + 1))
  have hlt := flat2_len (ys.take k)
  have hlk : (ys.take k).length = k := by simp; omega
  have hld : (ys.drop (k + 1)).length = ys.length - (k + 1) := by simp
  have hsub : ∀ y ∈ ys.eraseIdx k, y ∈ ys := fun y hy => List.mem_of_mem_eraseIdx hy
  have hsh := Shape.setCells g zs ((ys.length - 1) * 2) (Shape.setCells g ((ys.drop (k + 1)).flatMap blist) (k * 2) hs)
  have hatt : At w g 0 ((ys.take k).flatMap blist) := by
    have : ys.flatMap blist = (ys.take k).flatMap blist ++ (ys.drop k).flatMap blist := by rw [← List.flatMap_append, List.take_append_drop]
    rw [this] at hat
    exact hat.append_left
  refine ⟨⟨?_, fun y hy => h.pc y (hsub y hy), fun y hy => owns_block (h.row y (hsub y hy)) (fun j hj => ?_)⟩, below_setCells hBg _ _ _ (below_setCells hBg _ _ _ (Below.refl _ _))⟩
  · rw [hl2]
    refine hsh.owns (fun i hi => ?_) (by rw [flat2_len, hl2]) (by omega) hm hBg
    have hi2 := hi
    rw [flat2_len, hl2] at hi2
    rw [World.cell?_setCells_out _ _ _ _ _ (fun _ hs => by left; show 0 + i < _; omega)]
    have e : (ys.eraseIdx k).flatMap blist = (ys.take k).flatMap blist ++ (ys.drop (k + 1)).flatMap blist := by rw [List.eraseIdx_eq_take_drop_succ, List.flatMap_append]
    have key : At (w.setCells g (k * 2) ((ys.drop (k + 1)).flatMap blist)) g 0 ((ys.eraseIdx k).flatMap blist) := by
      rw [e]
      refine At.append (fun i hi => ?_) ?_
      · rw [World.cell?_setCells_out _ _ _ _ _ (fun _ hs => by left; show 0 + i < _; omega)]
        exact hatt i hi
      · rw [hlt, hlk, Nat.zero_add]
        exact at_set_all (hs.there (by rw [hln, hld]; omega))

    exact key i hi
  · have := shape_apart hs (h.row y (hsub y hy)) hne j hj
    rw [heap_setCells this, heap_setCells this]
end
end Go.Proofs.Ytlfnddmncbkjaaa.Fb

/- What a put leaves: plain. No program in sight. -/
namespace Go.Proofs.Ytlfnddmncbkjaaa.Fb
set_option linter.unusedVariables false
set_option linter.unusedSimpArgs false
open Go.RowKit
/-- without the one at q; below 0: all -/
def dq (q : Int) (l : List BlkD) : List BlkD := if 0 ≤ q then l.eraseIdx q.toNat else l
theorem dq_nil (q : Int) : dq q [] = [] := by unfold dq; split <;> simp
theorem dq_len (q : Int) (l : List BlkD) : (dq q l).length ≤ l.length := by
  unfold dq; split
  · exact List.length_eraseIdx_le l q.toNat
  · exact Nat.le_refl _
theorem dq_mem {q : Int} {l : List BlkD} {x : BlkD} (h : x ∈ dq q l) : x ∈ l := by
  unfold dq at h; split at h
  · exact List.mem_of_mem_eraseIdx h
  · exact h
theorem dq_keep {q : Int} {l : List BlkD} {k : Nat} (hk : k < l.length) (hne : (k : Int) ≠ q) : dq q (l.take (k + 1)) = dq q (l.take k) ++ [l[k]] := by
  have hlk : (l.take k).length = k := by simp; omega
  rw [List.take_succ_eq_append_getElem hk]
  unfold dq; split
  · rcases Nat.lt_or_ge q.toNat k with h | h
    · rw [List.eraseIdx_append_of_lt_length (by omega)]
    · have h2 : k < q.toNat := by omega
      rw [List.eraseIdx_of_length_le (by simp; omega), List.eraseIdx_of_length_le (by omega)]
  · rfl
theorem dq_skip {q : Int} {l : List BlkD} {k : Nat} (hk : k < l.length) (he : (k : Int) = q) : dq q (l.take (k + 1)) = dq q (l.take k) := by
  have hlk : (l.take k).length = k := by simp; omega
  rw [List.take_succ_eq_append_getElem hk]
  unfold dq; rw [if_pos (by omega), if_pos (by omega)]
  rw [List.eraseIdx_append_of_length_le (by omega), List.eraseIdx_of_length_le (by omega : (l.take k).length ≤ q.toNat), show q.toNat - (l.take k).length = 0 by omega]
  simp
/-- all, the new one last; where that is too many, without the first -/
def putL (room : Int) (l : List BlkD) (y : BlkD) : List BlkD := if room < ((dq (placeI l y.pc) l ++ [y]).length : Int) then (dq (placeI l y.pc) l ++ [y]).drop 1 else dq (placeI l y.pc) l ++ [y]
def putP (room pu : Int) (l : List BlkD) (y : BlkD) : Int := if room < ((dq (placeI l y.pc) l ++ [y]).length : Int) then wrap64 (pu + 1) else pu
theorem abs_pcs {l l' : List BlkD} (h : l.map BlkD.abs = l'.map BlkD.abs) (pc : Int) : placeN l pc = placeN l' pc := by
  have e : ∀ l : List BlkD, placeN l pc = (l.map BlkD.abs).findIdx (fun p => p.1 == pc) := fun l => by
    unfold placeN; rw [List.findIdx_map]; rfl
  rw [e, e, h]
theorem abs_place {l l' : List BlkD} (h : l.map BlkD.abs = l'.map BlkD.abs) (pc : Int) : placeI l pc = placeI l' pc := by
  have hl : l.length = l'.length := by have := congrArg List.length h; simpa using this
  unfold placeI; rw [abs_pcs h, hl]
theorem dq_abs {l l' : List BlkD} (h : l.map BlkD.abs = l'.map BlkD.abs) (q : Int) : (dq q l).map BlkD.abs = (dq q l').map BlkD.abs := by
  unfold dq; split
  · simp only [List.eraseIdx_eq_take_drop_succ, List.map_append, List.map_take, List.map_drop, h]
  · exact h
theorem put_abs {room : Int} {l l' : List BlkD} {y y' : BlkD} (h : l.map BlkD.abs = l'.map BlkD.abs) (hy : y.abs = y'.abs) : (putL room l y).map BlkD.abs = (putL room l' y').map BlkD.abs ∧ ∀ pu, putP room pu l y = putP room pu l' y' := by
  have hp : y.pc = y'.pc := congrArg Prod.fst hy
  have e : (dq (placeI l y.pc) l ++ [y]).map BlkD.abs = (dq (placeI l' y'.pc) l' ++ [y']).map BlkD.abs := by
    rw [List.map_append, List.map_append, hp, abs_place h, dq_abs h]; simp [hy]
  have hl : (dq (placeI l y.pc) l ++ [y]).length = (dq (placeI l' y'.pc) l' ++ [y']).length := by have := congrArg List.length e; simpa using this
  unfold putL putP
  rw [hl]
  refine ⟨?_, fun pu => rfl⟩
  split
  · rw [List.map_drop, List.map_drop, e]
  · exact e
theorem sl_drop {w : World} {g n cap s : Nat} {xs : List Value} (h : Sl w (.slice (some ⟨g, 0, none⟩) (n + 1) cap) s (n + 1) xs) : Sl w (.slice (some ⟨g, s, none⟩) n (cap - 1)) s n (xs.drop s) := by
  obtain ⟨hl, ao, c, e, h1, h2, h3, h4⟩ := h
  cases e
  refine ⟨by rw [List.length_drop, hl, Nat.add_mul]; omega, _, _, rfl, by omega, by omega, (by intro e; cases e), fun x hx hne => ?_⟩
  cases hx
  refine ⟨rfl, fun j hj => ?_⟩
  have hx2 : xs ≠ [] := by intro e; rw [e] at hne; simp at hne
  have h5 := (h4 _ rfl hx2).2
  have hj2 : s + j < xs.length := by simp at hj; omega
  have := h5 (s + j) hj2
  simp only [Nat.zero_add] at this
  show w.cell? ⟨g, s + j, none⟩ = _
  rw [this]; simp
theorem flat_drop : ∀ l : List BlkD, (l.drop 1).flatMap blist = (l.flatMap blist).drop 2
  | [] => rfl
  | x :: r => by simp [blist]
theorem sl_none {w : World} {ao : Option Addr} {cap s : Nat} (hc : cap ≤ maxLen) (h0 : ao = none → cap = 0) : Sl w (.slice ao 0 cap) s 0 [] := ⟨by simp, ao, cap, rfl, by omega, hc, h0, fun _ _ hne => absurd rfl hne⟩
end Go.Proofs.Ytlfnddmncbkjaaa.Fb

/- What stands behind a put's append. No program in sight. -/
namespace Go.Proofs.Ytlfnddmncbkjaaa.Fb
set_option linter.unusedVariables false
set_option linter.unusedSimpArgs false
open Go.RowKit
theorem at_nil {w : World} {b off : Nat} : At w b off [] := fun j hj => by simp at hj
theorem at_cons {w : World} {b off : Nat} {v : Value} {xs : List Value} (h : w.cell? ⟨b, off, none⟩ = some v) (t : At w b (off + 1) xs) : At w b off (v :: xs) := fun j hj => by
  cases j with
  | zero => exact h
  | succ j => have := t j (by simpa using hj); rw [show off + (j + 1) = off + 1 + j by omega]; simpa using this
section
variable {B TB h : Nat} {w w6 w8 w9 : World} {zs : List BlkD} {v : Value} {xs : List Value} {n : Nat}
/-- below the row that was grown nothing has changed -/
theorem put_below (hb68 : Below w6.heap.size w6 w8) (hown : w8.ownsRow B TB 2 v n xs) (hg : w8.grownBy w9 v.ownBlock) (hB : B ≤ w6.heap.size) : Below B w6 w9 :=
  have e : ∀ k, k < B → w9.heap[k]? = w8.heap[k]? := fun k hk => hg.block k (by have := hb68.size; omega) (fun e => by have := (hown.lt k e.symm).1; omega)
  ⟨hg.os.trans hb68.os, hg.tape.trans hb68.tape, hg.output.trans hb68.output, Nat.le_trans hb68.size hg.size, fun k hk => (e k hk).trans (hb68.block k (by omega))⟩
end
theorem put_tail {B TB TI T h : Nat} {w w6 w8 w9 : World} {zs : List BlkD} {z y : BlkD} {room pu st : Int} {aX aY : Option Addr} {cX cY : Nat} (hne : TB ≠ TI) (hhB : h + 3 ≤ B) (hB6 : B ≤ w6.heap.size) (hcp : Cp B TB TI w8 (.slice aX zs.length cX) zs) (hb6 : Below h w w6)
    (hf6 : ∀ o, w6.frozen? ⟨h, o, none⟩ = false) (hz6 : w6.heap[h + 1 + 1]? = some (.cells #[.int .i64 0, .slice none 0 0, .int .i64 0, .int .i64 0] T (0, 0))) (g : At w6 h 0 [.int .i64 room, .slice aX zs.length cX, .int .i64 pu, .int .i64 st])
    (hb68 : Below w6.heap.size w6 w8) (hzp : U32 z.pc) (hzr : w8.ownsRow B TI 5 z.vi z.ins.length (z.ins.flatMap ilist)) (hza : z.abs = y.abs) (hown : w9.ownsRow B TB 2 (.slice aY (zs.length + 1) cY) (zs.length + 1) (zs.flatMap blist ++ blist z)) (hg : w8.grownBy w9 (Value.slice aX zs.length cX).ownBlock) :
    Cp B TB TI (w9.setCell ⟨h, 1, none⟩ (.slice aY (zs.length + 1) cY)) (.slice aY (zs.length + 1) cY) (zs ++ [z]) ∧ z.abs = y.abs ∧ Below h w (w9.setCell ⟨h, 1, none⟩ (.slice aY (zs.length + 1) cY)) ∧ (∀ o, (w9.setCell ⟨h, 1, none⟩ (.slice aY (zs.length + 1) cY)).frozen? ⟨h, o, none⟩ = false) ∧ (w9.setCell ⟨h, 1, none⟩ (.slice aY (zs.length + 1) cY)).heap[h + 1 + 1]? = some (.cells #[.int .i64 0, .slice none 0 0, .int .i64 0, .int .i64 0] T (0, 0)) ∧ At (w9.setCell ⟨h, 1, none⟩ (.slice aY (zs.length + 1) cY)) h 0 [.int .i64 room, .slice aY (zs.length + 1) cY, .int .i64 pu, .int .i64 st] ∧ w6.heap.size ≤ (w9.setCell ⟨h, 1, none⟩ (.slice aY (zs.length + 1) cY)).heap.size := by
  have hb := put_below hb68 hcp.own hg hB6
  have hb9 : Below h w6 w9 := hb.mono (by omega)
  refine ⟨(Cp.snoc hne hcp hzp hzr hown hg).set (show h < B by omega) _, hza, (hb6.trans (hb9.mono (Nat.le_refl _))).setCell (p := ⟨h, 1, none⟩) (Nat.le_refl _) _, fun o => ?_, ?_, ?_, ?_⟩
  · rw [World.frozen?_setCell, hb.frozen (p := ⟨h, o, none⟩) (show h < B by omega)]; exact hf6 o
  · rw [Below.heap_setCell _ _ _ _ (by show h + 1 + 1 ≠ h; omega), hb.block _ (by omega)]; exact hz6
  · have g9 : At w9 h 0 [.int .i64 room, .slice aX zs.length cX, .int .i64 pu, .int .i64 st] := fun j hj => (hb.cell (p := ⟨h, 0 + j, none⟩) (show h < B by omega)).trans (g j hj)
    have := g9.set 1 (by simp) (.slice aY (zs.length + 1) cY)
    exact this
  · simpa using hb.size
theorem put_fin {room : Int} {ys l zs : List BlkD} {y z : BlkD} (hab : ys.map BlkD.abs = l.map BlkD.abs) (hz : z.abs = y.abs) (hzs : zs = dq (placeI ys y.pc) ys) (pu : Int) :
    (room < ((zs.length + 1 : Nat) : Int) → ((zs ++ [z]).drop 1).map BlkD.abs = (putL room l y).map BlkD.abs ∧ putP room pu l y = wrap64 (pu + 1)) ∧ (¬ room < ((zs.length + 1 : Nat) : Int) → (zs ++ [z]).map BlkD.abs = (putL room l y).map BlkD.abs ∧ putP room pu l y = pu) := by
  obtain ⟨h1, h2⟩ := put_abs (room := room) hab hz
  have hp : z.pc = y.pc := congrArg Prod.fst hz
  have hl : ((dq (placeI ys z.pc) ys ++ [z]).length : Int) = ((zs.length + 1 : Nat) : Int) := by rw [hp, ← hzs]; simp
  rw [← h1, ← h2 pu]
  unfold putL putP
  rw [hl, hp, ← hzs]
  refine ⟨fun h => ?_, fun h => ?_⟩
  · rw [if_pos h, if_pos h]; exact ⟨rfl, rfl⟩
  · rw [if_neg h, if_neg h]; exact ⟨rfl, rfl⟩
end Go.Proofs.Ytlfnddmncbkjaaa.Fb

/- What a loop of puts keeps. Plain: no program in sight. -/
namespace Go.Proofs.Ytlfnddmncbkjaaa.Fb
set_option linter.unusedVariables false
set_option linter.unusedSimpArgs false
open Go.RowKit
def rlist (p : Int × Int) : List Value := [.int .u32 p.1, .int .u32 p.2]
def pcs (l : List BlkD) : List Int := l.map (·.pc)
theorem pcs_abs {l l' : List BlkD} (h : l.map BlkD.abs = l'.map BlkD.abs) : pcs l = pcs l' := by
  have : ∀ l : List BlkD, pcs l = (l.map BlkD.abs).map Prod.fst := fun l => by unfold pcs; rw [List.map_map]; rfl
  rw [this, this, h]
theorem len_abs {l l' : List BlkD} (h : l.map BlkD.abs = l'.map BlkD.abs) : l.length = l'.length := by have := congrArg List.length h; simpa using this
theorem ins_abs {n : Nat} {l l' : List BlkD} (h : l.map BlkD.abs = l'.map BlkD.abs) (hi : ∀ x ∈ l', x.ins.length ≤ n) : ∀ x ∈ l, x.ins.length ≤ n := fun x hx => by
  obtain ⟨y, hy, e⟩ := List.mem_map.1 (show x.abs ∈ l'.map BlkD.abs by rw [← h]; exact List.mem_map_of_mem hx)
  have e2 : y.ins = x.ins := congrArg Prod.snd e
  rw [← e2]; exact hi y hy
theorem nodup_inj {l : List Int} (hd : l.Nodup) {i j : Nat} (hi : i < l.length) (hj : j < l.length) (e : l[i] = l[j]) : i = j := by
  rcases Nat.lt_trichotomy i j with h | h | h
  · exact absurd e (List.pairwise_iff_getElem.1 hd i j hi hj h)
  · exact h
  · exact absurd e.symm (List.pairwise_iff_getElem.1 hd j i hj hi h)
theorem pcs_inj {l : List BlkD} (hd : (pcs l).Nodup) {i j : Nat} (hi : i < l.length) (hj : j < l.length) (e : l[i].pc = l[j].pc) : i = j := by
  have h : (l.map (·.pc)).Nodup := hd
  exact nodup_inj h (by simpa using hi) (by simpa using hj) (by simp only [List.getElem_map]; exact e)
theorem dq_not {l : List BlkD} {pc : Int} (hd : (pcs l).Nodup) : ∀ x ∈ dq (placeI l pc) l, x.pc ≠ pc := by
  intro x hx
  unfold dq placeI at hx
  by_cases h : placeN l pc < l.length
  · rw [if_pos h] at hx
    rw [if_pos (by omega), Int.toNat_natCast] at hx
    intro e
    have hp : (l[placeN l pc].pc == pc) = true := List.findIdx_getElem (p := fun x : BlkD => x.pc == pc) (xs := l) (w := h)
    have hp2 : l[placeN l pc].pc = pc := by simpa using hp
    obtain ⟨i, hi, hne, rfl⟩ : ∃ i, ∃ hi : i < l.length, i ≠ placeN l pc ∧ l[i] = x := by
      obtain ⟨j, hj, e2⟩ := List.mem_iff_getElem.1 hx
      rw [List.getElem_eraseIdx] at e2
      split at e2
      · exact ⟨j, by omega, by omega, e2⟩
      · rename_i hjj
        have hj3 := hj
        rw [List.length_eraseIdx] at hj3
        simp only [h, if_true] at hj3
        exact ⟨j + 1, by omega, by omega, e2⟩
    exact hne (pcs_inj hd hi h (by rw [e, hp2]))
  · rw [if_neg h, if_neg (by omega)] at hx
    intro e
    have : (pcs l).length = (pcs l).length := rfl
    refine h ?_
    unfold placeN
    exact List.findIdx_lt_length_of_exists ⟨x, hx, by simp [e]⟩
theorem dq_sub (q : Int) (l : List BlkD) : (dq q l).Sublist l := by
  unfold dq; split
  · exact List.eraseIdx_sublist l q.toNat
  · exact List.Sublist.refl _
theorem pcs_sub {l l' : List BlkD} (h : l.Sublist l') (hd : (pcs l').Nodup) : (pcs l).Nodup := List.Sublist.nodup (h.map _) hd
theorem pcs_snoc {l : List BlkD} {y : BlkD} (hd : (pcs l).Nodup) (hn : ∀ x ∈ l, x.pc ≠ y.pc) : (pcs (l ++ [y])).Nodup := by
  unfold pcs
  rw [List.map_append, List.nodup_append]
  refine ⟨hd, by simp, ?_⟩
  intro a ha b hb
  obtain ⟨x, hx, rfl⟩ := List.mem_map.1 ha
  simp only [List.map_cons, List.map_nil, List.mem_singleton] at hb
  rw [hb]; exact hn x hx
/-- what a put leaves: all of different places, no more than the room; and the new one last, where there is room -/
theorem putL_keeps {room : Int} {l : List BlkD} {y : BlkD} (h0 : 0 ≤ room) (hl : (l.length : Int) ≤ room) (hd : (pcs l).Nodup) (hi : ∀ x ∈ l, x.ins.length ≤ 16) (hy : y.ins.length ≤ 16) :
    (pcs (putL room l y)).Nodup ∧ ((putL room l y).length : Int) ≤ room ∧ (∀ x ∈ putL room l y, x.ins.length ≤ 16) ∧ (0 < room → ∃ A, putL room l y = A ++ [y] ∧ ∀ x ∈ A, x.pc ≠ y.pc) := by
  have hnd := pcs_snoc (pcs_sub (dq_sub (placeI l y.pc) l) hd) (dq_not (pc := y.pc) hd)
  have hln := dq_len (placeI l y.pc) l
  have hii : ∀ x ∈ dq (placeI l y.pc) l ++ [y], x.ins.length ≤ 16 := fun x hx => by
    rcases List.mem_append.1 hx with hx | hx
    · exact hi x (dq_mem hx)
    · rw [List.mem_singleton] at hx; rw [hx]; exact hy
  unfold putL
  split
  · rename_i hgt
    refine ⟨pcs_sub (List.drop_sublist _ _) hnd, by simp; omega, fun x hx => hii x (List.mem_of_mem_drop hx), fun hp => ?_⟩
    simp only [List.length_append, List.length_cons, List.length_nil] at hgt
    have hne : 1 ≤ (dq (placeI l y.pc) l).length := by omega
    refine ⟨(dq (placeI l y.pc) l).drop 1, by rw [List.drop_append_of_le_length hne], fun x hx => dq_not hd x (List.mem_of_mem_drop hx)⟩
  · rename_i hgt
    exact ⟨hnd, by omega, hii, fun _ => ⟨_, rfl, dq_not hd⟩⟩
/-- where the last one is, if none ahead of it is of its place -/
theorem place_last {A : List BlkD} {y : BlkD} (h : ∀ x ∈ A, x.pc ≠ y.pc) : placeN (A ++ [y]) y.pc = A.length := by
  unfold placeN
  rw [List.findIdx_append]
  have : List.findIdx (fun x : BlkD => x.pc == y.pc) A = A.length := List.findIdx_eq_length.2 (fun x hx => by simp [h x hx])
  rw [if_neg (by omega)]
  simp
theorem found_last {l A : List BlkD} {y : BlkD} (hab : l.map BlkD.abs = (A ++ [y]).map BlkD.abs) (h : ∀ x ∈ A, x.pc ≠ y.pc) : ∃ hh : placeN l y.pc < l.length, l[placeN l y.pc].abs = y.abs := by
  have e1 := (abs_pcs hab y.pc).trans (place_last h)
  have e2 := len_abs hab
  have hh : placeN l y.pc < l.length := by rw [e1, e2]; simp
  refine ⟨hh, ?_⟩
  have := congrArg (fun m => m[A.length]?) hab
  have h3 : A.length < l.length := by rw [e2]; simp
  simp only [List.getElem?_map, List.getElem?_eq_getElem h3] at this
  simp at this
  have e4 : l[placeN l y.pc] = l[A.length] := by congr 1
  rw [e4]; exact this
/-- none ahead of the k-th is of its place -/
theorem place_none {l : List BlkD} (hd : (pcs l).Nodup) {k : Nat} (hk : k < l.length) : placeI (l.take k) l[k].pc = -1 := by
  refine placeI_no (fun j hj => ?_)
  have hj2 : j < k := by simp at hj; omega
  rw [List.getElem_take]
  intro e
  have := pcs_inj hd (by omega) hk e
  omega
/-- a store elsewhere -/
theorem blks_sets {w : World} {v : Value} {l : List BlkD} {B b : Nat} (h : Blks w v l) (hf : Far B v l) (hb : b < B) (o : Nat) (us : List Value) : Blks (w.setCells b o us) v l :=
  ⟨sl_setCells (fun b' off n c e => by have := hf.1 b' (by rw [e]; rfl); omega) _ _ _ h.1, fun x hx => ⟨sl_setCells (fun b' off n c e => by have := hf.2 x hx b' (by rw [e]; rfl); omega) _ _ _ (h.2 x hx).at_, (h.2 x hx).pc⟩⟩
/-- the cache in its box, as a loop of puts keeps it -/
structure CK (cb : Nat) (room : Int) (w wr : World) (v : Value) (zs : List BlkD) (pu st : Int) : Prop where
  at_ : At wr cb 0 [.int .i64 room, v, .int .i64 pu, .int .i64 st]
  frz : ∀ o, wr.frozen? ⟨cb, o, none⟩ = false
  blks : Blks wr v zs
  ins : ∀ x ∈ zs, x.ins.length ≤ 16
  len : (zs.length : Int) ≤ room
  dis : (pcs zs).Nodup
  bel : Below w.heap.size w wr
  lo : w.heap.size ≤ cb
  hi : cb < wr.heap.size
section
variable {cb : Nat} {room : Int} {w wr w' : World} {v v' : Value} {zs zs' : List BlkD} {pu st pu' st' : Int}
theorem CK.below (h : CK cb room w wr v zs pu st) (hb : Below wr.heap.size wr w') : CK cb room w w' v zs pu st :=
  ⟨h.at_.below hb, fun o => (hb.frozen (p := ⟨cb, o, none⟩) h.hi).trans (h.frz o), h.blks.below hb, h.ins, h.len, h.dis, h.bel.trans (hb.mono h.bel.size), h.lo, Nat.lt_of_lt_of_le h.hi hb.size⟩
theorem CK.there (h : CK cb room w wr v zs pu st) : wr.there cb 0 4 := fun j hj => ⟨by
  have := h.at_ j (by simpa using hj)
  rw [this]; rfl, h.frz _⟩
theorem CK.next (h : CK cb room w wr v zs pu st) (hb : Below wr.heap.size wr w') (hv : Blks w' v' zs') (hf : Far wr.heap.size v' zs') (hi : ∀ x ∈ zs', x.ins.length ≤ 16) (hl : (zs'.length : Int) ≤ room) (hd : (pcs zs').Nodup) :
    CK cb room w (w'.setCells cb 0 [.int .i64 room, v', .int .i64 pu', .int .i64 st']) v' zs' pu' st' :=
  have k := h.below hb
  ⟨at_set_all (vs := [.int .i64 room, v', .int .i64 pu', .int .i64 st']) k.there, fun o => by rw [World.frozen?_setCells]; exact k.frz o, blks_sets hv hf h.hi _ _, hi, hl, hd, below_setCells h.lo _ _ _ k.bel, h.lo, by rw [size_setCells]; exact k.hi⟩
end
end Go.Proofs.Ytlfnddmncbkjaaa.Fb

/- A store into a small block leaves rows of larger elements alone. No program in sight. -/
namespace Go.Proofs.Ytlfnddmncbkjaaa.Fb
set_option linter.unusedVariables false
set_option linter.unusedSimpArgs false
open Go.RowKit
theorem sl_set_small {w : World} {v : Value} {s n : Nat} {xs : List Value} {b : Nat} {cs : Array Value} {t : TypeId} {fr : Nat × Nat} (h : Sl w v s n xs) (hb : w.heap[b]? = some (.cells cs t fr)) (hs : cs.size < s) (o : Nat) (us : List Value) : Sl (w.setCells b o us) v s n xs := by
  obtain ⟨hl, ao, cap, e, h1, h2, h3, h4⟩ := h
  refine ⟨hl, ao, cap, e, h1, h2, h3, fun x hx hne => ?_⟩
  obtain ⟨hsp, hat⟩ := h4 x hx hne
  have hx0 : xs.length ≠ 0 := by intro e; exact hne (List.eq_nil_of_length_eq_zero e)
  have hn0 : n ≠ 0 := by intro e; rw [e] at hl; simp at hl; exact hx0 (by rw [hl]; rfl)
  have hge : s ≤ xs.length := by rw [hl]; exact Nat.le_mul_of_pos_left s (by omega)
  have hbn : x.block ≠ b := by
    intro e2
    have h5 := hat cs.size (by omega)
    unfold World.cell? at h5
    rw [show (⟨x.block, x.off + cs.size, none⟩ : Addr).block = b from e2, hb] at h5
    simp at h5
  exact ⟨hsp, fun j hj => (cell_block (heap_setCells hbn _ _ _) _).trans (hat j hj)⟩
theorem blkok_set_small {w : World} {z : BlkD} {b : Nat} {cs : Array Value} {t : TypeId} {fr : Nat × Nat} (h : BlkOk w z) (hb : w.heap[b]? = some (.cells cs t fr)) (hs : cs.size < 5) (o : Nat) (us : List Value) : BlkOk (w.setCells b o us) z :=
  ⟨sl_set_small h.at_ hb hs o us, h.pc⟩
theorem flat2_take : ∀ (l : List BlkD) (j : Nat), (l.take j).flatMap blist = (l.flatMap blist).take (j * 2)
  | [], j => by simp
  | x :: r, 0 => by simp
  | x :: r, j + 1 => by
    show blist x ++ (r.take j).flatMap blist = (blist x ++ r.flatMap blist).take ((j + 1) * 2)
    rw [flat2_take r j, show (j + 1) * 2 = j * 2 + 1 + 1 by omega]; rfl
theorem sl_pre {w : World} {ao : Option Addr} {n m cap s : Nat} {xs : List Value} (h : Sl w (.slice ao n cap) s n xs) (hm : m ≤ n) : Sl w (.slice ao m cap) s m (xs.take (m * s)) := by
  obtain ⟨hl, ao', cap', e, h1, h2, h3, h4⟩ := h
  cases e
  have hms : m * s ≤ n * s := Nat.mul_le_mul_right s hm
  refine ⟨by rw [List.length_take, hl]; omega, ao, cap, rfl, by omega, h2, h3, fun x hx hne => ?_⟩
  have hne2 : xs ≠ [] := by intro e; rw [e] at hne; simp at hne
  obtain ⟨hsp, hat⟩ := h4 x hx hne2
  exact ⟨hsp, fun j hj => by
    have hj2 : j < xs.length := by rw [List.length_take] at hj; omega
    rw [hat j hj2, List.getElem_take]⟩
theorem blks_pre {w : World} {ao : Option Addr} {cap : Nat} {l : List BlkD} (h : Blks w (.slice ao l.length cap) l) {j : Nat} (hj : j ≤ l.length) : Sl w (.slice ao j cap) 2 (l.take j).length ((l.take j).flatMap blist) := by
  have := sl_pre h.1 hj
  rw [flat2_take, List.length_take, Nat.min_eq_left hj]
  exact this
end Go.Proofs.Ytlfnddmncbkjaaa.Fb

/- An instruction as an argument reads. -/
namespace Go.Proofs.Ytlfnddmncbkjaaa.RowB
set_option linter.unusedVariables false
set_option linter.unusedSimpArgs false
open Go.ChangeShapes Go.WideShapes Go.ChangeAt Go.RowKit Fb
section
variable {H : Type} {enc : TypeId × Value → H} {W : World}
theorem opens_ins : Opens enc Try.prog W 54 ilist (fun i => i.Wf) := by
  have h := opens_struct (enc := enc) (P := Try.prog) (W := W) (l := [(3, 1), (3, 1), (3, 1), (3, 1), (21, 1)]) Try.underlying54 (by kernel_rfl) (by kernel_rfl) (by kernel_rfl) (by kernel_rfl)
    (opensL_cons (opens_int Try.underlying3) (opensL_cons (opens_int Try.underlying3) (opensL_cons (opens_int Try.underlying3) (opensL_cons (opens_int Try.underlying3) (opensL_cons (opens_int Try.underlying21) opensL_nil)))))
  refine h.map (fun p => ⟨p.1, p.2.1, p.2.2.1, p.2.2.2.1, p.2.2.2.2.1⟩) ?_
  rintro ⟨a, b, c, d, e, u⟩ ⟨h1, h2, h3, h4, h5, _⟩
  exact ⟨rfl, ⟨wf_i64 h1, wf_i64 h2, wf_i64 h3, wf_i64 h4, wf_i32 h5⟩⟩
end
end Go.Proofs.Ytlfnddmncbkjaaa.RowB
