/- A step as data: what it keeps. No program in sight. -/
import Derived.Test.YtlfnddmncbkjaabZMA
import Derived.Test.YtlfnddmncbkjaabZFbEnc3
import Derived.Deep.MidRow
import Derived.StillTailTactics
namespace Go.Proofs.Ytlfnddmncbkjaab.Fb
set_option linter.unusedVariables false
set_option linter.unusedSimpArgs false
open Go.RowKit

theorem mLoad_u (l : List Int) (op pc : Int) (hop : 11 ≤ op ∧ op ≤ 15) (hpc : U32 pc) (hb : ∀ i, 0 ≤ l.getD i 0 ∧ l.getD i 0 < 256) : U32 (mLoad l op pc) := by
  by_cases h : mLoadOk l op pc = true
  · obtain ⟨k, rfl⟩ := Int.eq_ofNat_of_zero_le hpc.1
    have h0 := hb k
    have h1 := hb (k + 1)
    have h2 := hb (k + 2)
    have h3 := hb (k + 3)
    have ho : op = 11 ∨ op = 12 ∨ op = 13 ∨ op = 14 ∨ op = 15 := by omega
    rcases ho with rfl | rfl | rfl | rfl | rfl
    · rw [mLoad_11 h]; exact mod_lo _
    · rw [mLoad_12 h]; exact mod_lo _
    · rw [mLoad_13 h]; unfold U32; omega
    · rw [mLoad_14 h]; unfold U32; omega
    · rw [mLoad_15 h]; unfold U32; omega
  · unfold mLoad; rw [if_neg h]; unfold U32; omega
theorem reg_u {h : Hart} (wf : h.Wf) (r : Int) : U32 (h.reg r) := by
  unfold Hart.reg
  by_cases hr : r.toNat < h.regs.length
  · rw [List.getD, List.getElem?_eq_getElem hr]; exact wf.regs _ (List.getElem_mem hr)
  · rw [List.getD, List.getElem?_eq_none (by omega)]; show U32 0; unfold U32; omega
theorem CoreD.Wf.set {d : CoreD} (wf : d.Wf) (r x : Int) (hx : U32 x) : (d.set r x).Wf := by
  refine ⟨?_, wf.m, wf.out, wf.fr, wf.tw, wf.mlen, wf.olen⟩
  show (d.h.setReg r x).Wf
  unfold Hart.setReg
  split
  · refine ⟨by simp [wf.h.len], fun y hy => ?_, wf.h.pc, wf.h.heldAt, wf.h.state, wf.h.cause⟩
    rcases List.mem_or_eq_of_mem_set hy with h | rfl
    · exact wf.h.regs _ h
    · exact hx
  · exact wf.h
theorem CoreD.Wf.setPc {d : CoreD} (wf : d.Wf) (x : Int) (hx : U32 x) : (d.setPc x).Wf :=
  ⟨⟨wf.h.len, wf.h.regs, hx, wf.h.heldAt, wf.h.state, wf.h.cause⟩, wf.m, wf.out, wf.fr, wf.tw, wf.mlen, wf.olen⟩
theorem CoreD.Wf.trap {d : CoreD} (wf : d.Wf) (c : Int) (hc : 1 ≤ c ∧ c ≤ 6) : (d.trap c).Wf :=
  ⟨⟨wf.h.len, wf.h.regs, wf.h.pc, wf.h.heldAt, ⟨(by decide : (-9223372036854775808 : Int) ≤ 2), (by decide : (2 : Int) ≤ 9223372036854775807)⟩, by show _ ≤ c ∧ c ≤ _; omega⟩, wf.m, wf.out, wf.fr, wf.tw, wf.mlen, wf.olen⟩
theorem CoreD.Wf.hold {d : CoreD} (wf : d.Wf) (b : Bool) (x : Int) (hx : U32 x) : (d.hold b x).Wf :=
  ⟨⟨wf.h.len, wf.h.regs, wf.h.pc, hx, wf.h.state, wf.h.cause⟩, wf.m, wf.out, wf.fr, wf.tw, wf.mlen, wf.olen⟩
theorem lay_bytes {l : List Int} (hb : Bytes l) (at_ w : Int) : ∀ m, Bytes (lay l at_ w m)
  | 0 => hb
  | m + 1 => fun x hx => by
    rcases List.mem_or_eq_of_mem_set hx with h | rfl
    · exact lay_bytes hb at_ w m x h
    · omega
theorem CoreD.Wf.put {d : CoreD} (wf : d.Wf) (op at_ x : Int) (ha : U32 at_) : (d.put op at_ x).Wf := by
  unfold CoreD.put
  split
  · rename_i hok
    have e : mStore d.m op at_ x = lay d.m at_ x (msize op).toNat := by unfold mStore; rw [if_pos hok]
    exact ⟨wf.h, by show Bytes (mStore d.m op at_ x); rw [e]; exact lay_bytes wf.m _ _ _, wf.out, ha, mod_lo _, by show (mStore d.m op at_ x).length ≤ _; rw [mStore_length]; exact wf.mlen, wf.olen⟩
  · exact wf
theorem CoreD.put_h (d : CoreD) (op at_ x : Int) : (d.put op at_ x).h = d.h := by unfold CoreD.put; split <;> rfl
theorem CoreD.put_out (d : CoreD) (op at_ x : Int) : (d.put op at_ x).out = d.out := by unfold CoreD.put; split <;> rfl
theorem CoreD.put_mlen (d : CoreD) (op at_ x : Int) : (d.put op at_ x).m.length = d.m.length := by unfold CoreD.put; split <;> simp [mStore_length]
theorem immOp_u (op : Int) : 28 ≤ immOp op ∧ immOp op ≤ 37 := by unfold immOp; repeat' split <;> omega
theorem atomS_wf {d : CoreD} (wf : d.Wf) (op a b : Int) (ha : U32 a) (hb : U32 b) : (atomS d op a b).1.Wf ∧ U32 (atomS d op a b).2.1 := by
  have hl := mLoad_u d.m 13 a (by omega) ha wf.m.getD
  unfold atomS
  split
  · split
    · exact ⟨wf.hold _ _ ha, hl⟩
    · split
      · split
        · exact ⟨(wf.put _ _ _ ha).hold _ _ (by unfold U32; omega), by show U32 0; unfold U32; omega⟩
        · exact ⟨wf.hold _ _ (by unfold U32; omega), by show U32 1; unfold U32; omega⟩
      · exact ⟨wf.put _ _ _ ha, hl⟩
  · exact ⟨wf.trap _ (by split <;> omega), by show U32 0; unfold U32; omega⟩
theorem callS_wf {d : CoreD} (wf : d.Wf) (ho : d.out.length < 1099511627776) : (callS d).1.Wf := by
  unfold callS
  split
  · exact ⟨⟨wf.h.len, wf.h.regs, wf.h.pc, wf.h.heldAt, ⟨(by decide : (-9223372036854775808 : Int) ≤ 1), (by decide : (1 : Int) ≤ 9223372036854775807)⟩, wf.h.cause⟩, wf.m, wf.out, wf.fr, wf.tw, wf.mlen, wf.olen⟩
  · split
    · refine ⟨wf.h, wf.m, fun x hx => ?_, wf.fr, wf.tw, wf.mlen, by show (d.out ++ [d.h.reg 10]).length ≤ _; rw [List.length_append, List.length_singleton]; omega⟩
      rcases List.mem_append.1 hx with h | h
      · exact wf.out x h
      · rw [List.mem_singleton] at h; subst h; exact reg_u wf.h _
    · exact wf.trap _ (by omega)
theorem ite_ind {α : Type} {P : α → Prop} {c : Prop} [Decidable c] {x y : α} (h1 : c → P x) (h2 : ¬ c → P y) : P (if c then x else y) := by
  by_cases h : c
  · rw [if_pos h]; exact h1 h
  · rw [if_neg h]; exact h2 h
theorem doS_wf {d : CoreD} (wf : d.Wf) (i : InsD) (ho : d.out.length < 1099511627776) : (doS i d).Wf := by
  have ha := reg_u wf.h i.rs1
  have hb := reg_u wf.h i.rs2
  have hn : U32 (i.imm % 4294967296) := mod_lo _
  unfold doS
  dsimp only
  repeat' (refine ite_ind (P := CoreD.Wf) (fun _ => ?_) (fun _ => ?_))
  all_goals first
    | exact wf.setPc _ (ite_lo (mod_lo _) (mod_lo _))
    | exact (wf.set _ _ (mod_lo _)).setPc _ (mod_lo _)
    | exact (wf.set _ _ (mod_lo _)).setPc _ (by unfold U32; omega)
    | exact wf.setPc _ (mod_lo _)
    | exact (wf.set _ _ (mLoad_u _ _ _ (by omega) (mod_lo _) wf.m.getD)).setPc _ (mod_lo _)
    | exact (wf.put _ _ _ (mod_lo _)).setPc _ (mod_lo _)
    | exact (wf.set _ _ (alu_lo _ _ _ ha hn)).setPc _ (mod_lo _)
    | exact (wf.set _ _ (alu_lo _ _ _ ha hb)).setPc _ (mod_lo _)
    | exact ((atomS_wf wf _ _ _ ha hb).1.set _ _ (atomS_wf wf _ _ _ ha hb).2).setPc _ (mod_lo _)
    | exact (atomS_wf wf _ _ _ ha hb).1
    | exact (callS_wf wf ho).setPc _ (mod_lo _)
    | exact callS_wf wf ho
    | exact wf.trap _ (by omega)
theorem CoreD.Wf.none {d : CoreD} (wf : d.Wf) : d.none.Wf := ⟨wf.h, wf.m, wf.out, by show U32 0; unfold U32; omega, by show U32 0; unfold U32; omega, wf.mlen, wf.olen⟩
theorem fetchS_c (l : List Int) (pc : Int) : (fetchS l pc).2 = 0 ∨ (fetchS l pc).2 = 1 ∨ (fetchS l pc).2 = 2 := by
  unfold fetchS
  split
  · cases dec (mLoad l 13 pc) <;> simp
  · simp
theorem goS_wf {d : CoreD} (wf : d.Wf) (ho : d.out.length < 1099511627776) : (goS d).Wf := by
  unfold goS
  have := fetchS_c d.m d.h.pc
  split
  · exact doS_wf wf.none _ ho
  · exact wf.none.trap _ (by omega)
theorem andNot1 (x : Int) (hx : U32 x) : bits .andNot .u32 x 1 = x - x % 2 := by
  obtain ⟨n, rfl⟩ := Int.eq_ofNat_of_zero_le hx.1
  have hn : n < 4294967296 := by have := hx.2; omega
  show IntKind.u32.wrap (((BitVec.ofInt 32 (n : Int) &&& ~~~ BitVec.ofInt 32 1).toNat : Nat) : Int) = _
  have hb : ∀ i : Fin 32, (BitVec.ofInt 32 1).getLsbD i.val = decide (i.val < 1) := by decide
  have e : BitVec.ofInt 32 (n : Int) &&& ~~~ BitVec.ofInt 32 1 = (BitVec.ofInt 32 (n : Int) >>> 1) <<< 1 := by
    apply BitVec.eq_of_getLsbD_eq
    intro i hi
    rw [BitVec.getLsbD_and, BitVec.getLsbD_not, hb ⟨i, hi⟩, BitVec.getLsbD_shiftLeft, BitVec.getLsbD_ushiftRight]
    by_cases h : i < 1
    · simp [h, hi]
    · simp [h, hi]; rw [show 1 + (i - 1) = i from by omega, BitVec.getLsbD_eq_getElem hi]
  rw [e, BitVec.toNat_shiftLeft, BitVec.toNat_ushiftRight, BitVec.ofInt_natCast, BitVec.toNat_ofNat, IntKind.wrap_u32, Nat.shiftLeft_eq, Nat.shiftRight_eq_div_pow]
  omega
end Go.Proofs.Ytlfnddmncbkjaab.Fb

/- A hart at work begins; a struct laid whole into cells that are there. No program in sight. -/
namespace Go.Proofs.Ytlfnddmncbkjaab.Fb
set_option linter.unusedVariables false
set_option linter.unusedSimpArgs false
open Go.RowKit
theorem below_setCells {B : Nat} {a : World} {b : Nat} (hb : B ≤ b) : ∀ (vs : List Value) (o : Nat) (w : World), Below B a w → Below B a (w.setCells b o vs)
  | [], _, _, h => h
  | v :: r, o, w, h => below_setCells hb r (o + 1) _ (h.setCell hb v)
theorem at_setCells {b' off : Nat} {xs : List Value} {b : Nat} (hne : b ≠ b') : ∀ (vs : List Value) (o : Nat) (w : World), At w b' off xs → At (w.setCells b o vs) b' off xs
  | [], _, _, h => h
  | v :: r, o, w, h => at_setCells hne r (o + 1) _ (h.set_other hne v)
theorem sl_setCells {v : Value} {s n : Nat} {xs : List Value} {b : Nat} (hne : ∀ b' off n c, v = .slice (some ⟨b', off, none⟩) n c → b ≠ b') : ∀ (vs : List Value) (o : Nat) (w : World), Sl w v s n xs → Sl (w.setCells b o vs) v s n xs
  | [], _, _, h => h
  | u :: r, o, w, h => sl_setCells hne r (o + 1) _ (h.set_other hne u)
/-- the cells that are there take a struct -/
theorem there_at {w : World} {b o n : Nat} {xs : List Value} (h : At w b o xs) (hn : xs.length = n) (hf : ∀ o, w.frozen? ⟨b, o, none⟩ = false) : w.there b o n := fun j hj => by
  have h1 := h j (by omega)
  exact ⟨by rw [h1]; rfl, hf _⟩
theorem load_setCells {P : Program} {w : World} {b o : Nat} {cs : Array Value} {ty : TypeId} {d : TypeDesc} (ht : w.there b o cs.size) (hu : P.underlying ty = some d) (hd : d.isRow = true) (hi : (P.info? ty).map (·.size) = some cs.size) :
    (loadVar ty ⟨b, o, none⟩).run P (w.setCells b o cs.toList) = .ok (.agg cs) (w.setCells b o cs.toList) := by
  have hr := World.rangeAt_setCells_same w b o cs.toList (by simpa using ht)
  have := run_loadVar_mid (P := P) (w.setCells b o cs.toList) b o ty cs.toList d hr hu hd (by simpa using hi)
  simpa using this
theorem results_c3 {P : Program} {fn : Func} {a x y z : Tmp} {t : TypeId} (h : fn.results = #[.cell a t, .tmp x, .tmp y, .tmp z]) (tmps : Array Value) {p : Addr} {w : World} {v : Value} (hp : tmps.getD a undef = .pointer (some p)) (hl : (loadVar t p).run P w = .ok v w) :
    (results fn tmps).run P w = .ok (.tuple #[v, tmps.getD x undef, tmps.getD y undef, tmps.getD z undef]) w := by
  have hp' : tmps[a]?.getD undef = .pointer (some p) := by rw [← hp]; simp
  simp [results, h, hp', hl, Sem.run_bind, asAddr]
/-- a read in a region whose last store alone writes -/
theorem wpStill_load_at {P : Program} {ops : Array Oper} {w : World} {Q : Act → Prop} {a : Act} {o : Oper} {rest : List Oper} (hgd : o.guard = none) (ty : TypeId) (x : Operand) (ho : o.op = .load ty x) (p : Addr) (hx : a.eval x = .pointer (some p)) (v : Value)
    (hr : (Instr.loadAt ty (.pointer (some p))).run P w = .ok v w) (h : wpStill P ops w Q rest (a.put o.dst v)) : wpStill P ops w Q (o :: rest) a := by
  refine wpStill_step (fun K hK => ?_)
  rw [if_pos (by simp [Region.wanted, hgd])]
  unfold Oper.still execOp
  simp only [ho, hx, Sem.run_bind, Sem.run_pure, hr]
  exact ⟨rfl, hK _ h⟩
theorem CoreAt.init {w : World} {hb ho : Nat} {vm : Value} {ty tC : TypeId} {h : Hart} {l : List Int} (hat : At w hb ho (hlist h)) (hfz : ∀ o, w.frozen? ⟨hb, o, none⟩ = false) (hlt : hb < w.heap.size)
    (hv : Ints .u8 w vm l) (hm : ∀ b off n c, vm = .slice (some ⟨b, off, none⟩) n c → b ≠ hb ∧ b < w.heap.size ∧ ∀ o, w.frozen? ⟨b, o, none⟩ = false) (hml : ∀ k, vm.ownBlock = some k → k < w.heap.size) :
    CoreAt w.heap.size hb ho vm ty (w.alloc (.cells #[.pointer (some ⟨hb, ho, none⟩), vm, .slice none 0 0, .int .u32 0, .int .u32 0] tC)) ⟨h, l, [], 0, 0⟩ := by
  have hB : Below w.heap.size w (w.alloc (.cells #[.pointer (some ⟨hb, ho, none⟩), vm, .slice none 0 0, .int .u32 0, .int .u32 0] tC)) := Below.alloc (Below.refl _ _) (Nat.le_refl _) _
  refine ⟨hlt, by simp, by simp, by simp, by simp, fun o => ?_, hat.below hB, fun o => ?_, hv.below hB, fun b off n c e => ?_, ⟨.slice none 0 0, by simp, World.ownsRow_nil _ _ _ _⟩, hml⟩
  · unfold World.frozen?; rw [heap_alloc_new]; simp
  · exact (hB.frozen (p := ⟨hb, o, none⟩) hlt).trans (hfz o)
  · obtain ⟨x1, x2, x3⟩ := hm b off n c e
    exact ⟨x2, x1, by simp; omega, fun o => (hB.frozen (p := ⟨b, o, none⟩) x2).trans (x3 o)⟩
/-- a row of the call's own as a hart's bytes -/
theorem owns_mem {w : World} {B hb : Nat} {e : TypeId} {vm : Value} {n : Nat} {xs : List Value} (h : w.ownsRow B e 1 vm n xs) (hB : hb < B) :
    (∀ b off n c, vm = .slice (some ⟨b, off, none⟩) n c → b ≠ hb ∧ b < w.heap.size ∧ ∀ o, w.frozen? ⟨b, o, none⟩ = false) ∧ (∀ k, vm.ownBlock = some k → k < w.heap.size) := by
  refine ⟨fun b off m c e => ?_, fun k e => (h.lt k e).2⟩
  rcases owns_open h with ⟨rfl, _⟩ | ⟨g, cap, rfl, h1, h2, _, _, _, h3⟩
  · cases e
  · injection e with e1
    injection e1 with e1
    injection e1 with e1
    subst e1
    exact ⟨by omega, h2, h3⟩
def hart0 : Hart := ⟨List.replicate 32 0, 0, false, 0, 0, 0⟩
def stepOk (h : Hart) (l : List Int) : Bool := h.ok && (h.state == 0) && decide (l.length ≤ 4096)
def stepD (h : Hart) (l : List Int) : CoreD := if stepOk h l = true then goS ⟨h, l, [], 0, 0⟩ else ⟨hart0, [], [], 0, 0⟩
end Go.Proofs.Ytlfnddmncbkjaab.Fb

/- A step keeps a hart that may be; a trap leaves the rest. No program in sight. -/
namespace Go.Proofs.Ytlfnddmncbkjaab.Fb
set_option linter.unusedVariables false
set_option linter.unusedSimpArgs false
open Go.RowKit
structure Run (n : Nat) (d : CoreD) : Prop where
  ok : d.h.ok = true
  st : d.h.state = 0
  ml : d.m.length = n
  ol : d.out.length ≤ 1
structure Fin0 (d0 d : CoreD) : Prop where
  ok : d.h.ok = true
  ml : d.m.length = d0.m.length
  ol : d.out.length ≤ 1
  no : ¬ d.h.state = 0 → { d.h with state := d0.h.state, cause := d0.h.cause } = d0.h ∧ d.m = d0.m ∧ d.out = d0.out
theorem Run.fin {d0 d : CoreD} (h : Run d0.m.length d) : Fin0 d0 d := ⟨h.ok, h.ml, h.ol, fun e => absurd h.st e⟩
theorem ok_parts {h : Hart} (hs : h.state = 0) : h.ok = true ↔ h.regs.getD 0 0 = 0 ∧ (h.held = true ∨ h.heldAt = 0) ∧ h.cause = 0 := by
  unfold Hart.ok
  rw [hs]
  simp only [Bool.and_eq_true, Bool.or_eq_true, beq_iff_eq, decide_eq_true_eq]
  constructor
  · rintro ⟨⟨h1, h2⟩, h3 | h3⟩
    · exact absurd h3.1.1 (by decide)
    · exact ⟨h1, h2, h3.2⟩
  · rintro ⟨h1, h2, h3⟩
    exact ⟨⟨h1, h2⟩, .inr ⟨.inl (by first | rfl | trivial), h3⟩⟩
theorem Run.set {n : Nat} {d : CoreD} (h : Run n d) (r x : Int) : Run n (d.set r x) := by
  refine ⟨?_, ?_, h.ml, h.ol⟩
  · have hs : (d.set r x).h.state = 0 := by unfold CoreD.set Hart.setReg; split <;> exact h.st
    rw [ok_parts hs]
    have h0 := (ok_parts h.st).1 h.ok
    unfold CoreD.set Hart.setReg
    split
    · refine ⟨?_, h0.2⟩
      show (d.h.regs.set r.toNat x).getD 0 0 = 0
      rw [List.getD, List.getElem?_set_ne (by omega)]
      exact h0.1
    · exact h0
  · unfold CoreD.set Hart.setReg; split <;> exact h.st
theorem Run.setPc {n : Nat} {d : CoreD} (h : Run n d) (x : Int) : Run n (d.setPc x) := ⟨h.ok, h.st, h.ml, h.ol⟩
theorem Run.hold {n : Nat} {d : CoreD} (h : Run n d) (b : Bool) (x : Int) (hx : b = true ∨ x = 0) : Run n (d.hold b x) := by
  refine ⟨?_, h.st, h.ml, h.ol⟩
  have h0 := (ok_parts h.st).1 h.ok
  exact (ok_parts (h := (d.hold b x).h) h.st).2 ⟨h0.1, hx, h0.2.2⟩
theorem Run.put {n : Nat} {d : CoreD} (h : Run n d) (op at_ x : Int) : Run n (d.put op at_ x) :=
  ⟨by rw [CoreD.put_h]; exact h.ok, by rw [CoreD.put_h]; exact h.st, by rw [CoreD.put_mlen]; exact h.ml, by rw [CoreD.put_out]; exact h.ol⟩
theorem Run.trap {d : CoreD} (h : Run d.m.length d) (c : Int) (hc : 1 ≤ c ∧ c ≤ 6) : Fin0 d (d.trap c) := by
  refine ⟨?_, rfl, h.ol, fun _ => ⟨rfl, rfl, rfl⟩⟩
  have h0 := (ok_parts h.st).1 h.ok
  unfold Hart.ok CoreD.trap Hart.trap
  simp only [Bool.and_eq_true, Bool.or_eq_true, beq_iff_eq, decide_eq_true_eq]
  exact ⟨⟨h0.1, h0.2.1⟩, .inl ⟨⟨by first | rfl | trivial, hc.1⟩, hc.2⟩⟩
theorem atomS_run {d : CoreD} (h : Run d.m.length d) (op a b : Int) : ((atomS d op a b).2.2 = true ∧ Run d.m.length (atomS d op a b).1) ∨ ((atomS d op a b).2.2 = false ∧ Fin0 d (atomS d op a b).1) := by
  unfold atomS
  split
  · split
    · exact .inl ⟨rfl, h.hold true a (.inl (by first | rfl | trivial))⟩
    · split
      · split
        · exact .inl ⟨by first | rfl | trivial, (h.put _ _ _).hold false 0 (.inr rfl)⟩
        · exact .inl ⟨rfl, h.hold false 0 (.inr rfl)⟩
      · exact .inl ⟨rfl, h.put _ _ _⟩
  · exact .inr ⟨rfl, h.trap _ (by split <;> omega)⟩
theorem callS_run {d : CoreD} (h : Run d.m.length d) (ho : d.out = []) : ((callS d).2 = true ∧ Run d.m.length (callS d).1) ∨ ((callS d).2 = false ∧ Fin0 d (callS d).1) := by
  unfold callS
  split
  · refine .inr ⟨rfl, ?_, rfl, h.ol, fun _ => ⟨rfl, rfl, rfl⟩⟩
    have h0 := (ok_parts h.st).1 h.ok
    unfold Hart.ok
    simp only [Bool.and_eq_true, Bool.or_eq_true, beq_iff_eq, decide_eq_true_eq]
    exact ⟨⟨h0.1, h0.2.1⟩, .inr ⟨.inr trivial, h0.2.2⟩⟩
  · split
    · exact .inl ⟨rfl, h.ok, h.st, rfl, by show (d.out ++ [d.h.reg 10]).length ≤ 1; rw [ho]; simp⟩
    · exact .inr ⟨rfl, h.trap 5 (by omega)⟩
theorem doS_fin {d : CoreD} (h : Run d.m.length d) (ho : d.out = []) (i : InsD) : Fin0 d (doS i d) := by
  unfold doS
  dsimp only
  repeat' (refine ite_ind (P := Fin0 d) (fun _ => ?_) (fun _ => ?_))
  all_goals first
    | exact Run.fin ((h.set _ _).setPc _)
    | exact Run.fin (h.setPc _)
    | exact Run.fin ((h.put _ _ _).setPc _)
    | exact h.trap _ (by omega)
    | (rename_i hq; rcases atomS_run h i.op (d.h.reg i.rs1) (d.h.reg i.rs2) with ⟨e, hr⟩ | ⟨e, hr⟩
       · exact Run.fin ((hr.set _ _).setPc _)
       · exact absurd hq (by rw [e]; decide))
    | (rename_i hq; rcases atomS_run h i.op (d.h.reg i.rs1) (d.h.reg i.rs2) with ⟨e, hr⟩ | ⟨e, hr⟩
       · exact absurd e hq
       · exact hr)
    | (rename_i hq; rcases callS_run h ho with ⟨e, hr⟩ | ⟨e, hr⟩
       · exact Run.fin (hr.setPc _)
       · exact absurd hq (by rw [e]; decide))
    | (rename_i hq; rcases callS_run h ho with ⟨e, hr⟩ | ⟨e, hr⟩
       · exact absurd e hq
       · exact hr)
theorem goS_fin (h : Hart) (l : List Int) (hok : h.ok = true) (hst : h.state = 0) : Fin0 ⟨h, l, [], 0, 0⟩ (goS ⟨h, l, [], 0, 0⟩) := by
  have hr : Run l.length ⟨h, l, [], 0, 0⟩ := ⟨hok, hst, rfl, by simp⟩
  have hc := fetchS_c l h.pc
  unfold goS
  dsimp only
  split
  · exact doS_fin (d := CoreD.none ⟨h, l, [], 0, 0⟩) hr rfl _
  · exact Run.trap (d := CoreD.none ⟨h, l, [], 0, 0⟩) hr _ (by omega)
theorem stepD_fin (h : Hart) (l : List Int) (hs : stepOk h l = true) :
    (stepD h l).h.ok = true ∧ (stepD h l).m.length = l.length ∧ (stepD h l).h.regs.getD 0 0 = 0 ∧ (stepD h l).out.length ≤ 1 ∧
      (¬ (stepD h l).h.state = 0 → { (stepD h l).h with state := h.state, cause := h.cause } = h ∧ (stepD h l).m = l ∧ (stepD h l).out = []) := by
  unfold stepD
  rw [if_pos hs]
  unfold stepOk at hs
  simp only [Bool.and_eq_true, beq_iff_eq, decide_eq_true_eq] at hs
  have h1 := goS_fin h l hs.1.1 hs.1.2
  refine ⟨h1.ok, h1.ml, ?_, h1.ol, h1.no⟩
  have h2 := h1.ok
  unfold Hart.ok at h2
  simp only [Bool.and_eq_true, beq_iff_eq] at h2
  exact h2.1.1
end Go.Proofs.Ytlfnddmncbkjaab.Fb
