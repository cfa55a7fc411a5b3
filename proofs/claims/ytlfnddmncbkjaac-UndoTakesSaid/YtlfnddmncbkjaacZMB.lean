import Derived.Test.YtlfnddmncbkjaacZMA
import Derived.Test.YtlfnddmncbkjaacZFbEnc3
import Derived.Deep.MidRow
import Derived.StillTailTactics
import Derived.Test.YtlfnddmncbkjaacZFbEnc
import Derived.Laws.IdiomCopy
import Derived.ArgAppend
set_option linter.unusedVariables false
set_option linter.unusedSimpArgs false
set_option maxRecDepth 100000
set_option maxHeartbeats 4000000
namespace Go.Proofs.Ytlfnddmncbkjaac.Fb
open Go.RowKit
theorem mLoad_u (l : List Int) (op pc : Int) (hop : 11 ≤ op ∧ op ≤ 15) (hpc : U32 pc) (hb : ∀ i, 0 ≤ l.getD i 0 ∧ l.getD i 0 < 256) : U32 (mLoad l op pc) := by
  by_cases h : mLoadOk l op pc = true
  · obtain ⟨k, rfl⟩ := Int.eq_ofNat_of_zero_le hpc.1
    have h0 := hb k
    have h1 := hb (k + 1)
    have h2 := hb (k + 2)
    have h3 := hb (k + 3)
    have ho : op = 11 ∨ op = 12 ∨ op = 13 ∨ op = 14 ∨ op = 15 := om
    rcases ho with rfl | rfl | rfl | rfl | rfl
    · rw [mLoad_11 h]; exact mod_lo _
    · rw [mLoad_12 h]; exact mod_lo _
    · rw [mLoad_13 h]; unfold U32; omega
    · rw [mLoad_14 h]; unfold U32; omega
    · rw [mLoad_15 h]; unfold U32; omega
  · unfold mLoad; rw [if_neg h]; unfold U32; omega
theorem reg_u {h : Hart} (wf : h.Wf) (r : Int) : U32 (h.reg r) := by
  unfold Hart.reg
  by_cases hr : r.toNat < h.regs.length
  · rw [List.getD, List.getElem?_eq_getElem hr]; exact wf.regs _ (List.getElem_mem hr)
  · rw [List.getD, List.getElem?_eq_none om]; show U32 0; unfold U32; omega
theorem CoreD.Wf.set {d : CoreD} (wf : d.Wf) (r x : Int) (hx : U32 x) : (d.set r x).Wf := by
  refine ⟨?_, wf.m, wf.out, wf.fr, wf.tw, wf.mlen, wf.olen⟩
  show (d.h.setReg r x).Wf
  unfold Hart.setReg
  split
  · refine ⟨by simp [wf.h.len], fun y hy => ?_, wf.h.pc, wf.h.heldAt, wf.h.state, wf.h.cause⟩
    rcases List.mem_or_eq_of_mem_set hy with h | rfl
    · exact wf.h.regs _ h
    · exact hx
  · exact wf.h
theorem CoreD.Wf.setPc {d : CoreD} (wf : d.Wf) (x : Int) (hx : U32 x) : (d.setPc x).Wf :=
  ⟨⟨wf.h.len, wf.h.regs, hx, wf.h.heldAt, wf.h.state, wf.h.cause⟩, wf.m, wf.out, wf.fr, wf.tw, wf.mlen, wf.olen⟩
theorem CoreD.Wf.trap {d : CoreD} (wf : d.Wf) (c : Int) (hc : 1 ≤ c ∧ c ≤ 6) : (d.trap c).Wf :=
  ⟨⟨wf.h.len, wf.h.regs, wf.h.pc, wf.h.heldAt, ⟨(by decide : (-9223372036854775808 : Int) ≤ 2), (by decide : (2 : Int) ≤ 9223372036854775807)⟩, by show _ ≤ c ∧ c ≤ _; omega⟩, wf.m, wf.out, wf.fr, wf.tw, wf.mlen, wf.olen⟩
theorem CoreD.Wf.hold {d : CoreD} (wf : d.Wf) (b : Bool) (x : Int) (hx : U32 x) : (d.hold b x).Wf :=
  ⟨⟨wf.h.len, wf.h.regs, wf.h.pc, hx, wf.h.state, wf.h.cause⟩, wf.m, wf.out, wf.fr, wf.tw, wf.mlen, wf.olen⟩
theorem lay_bytes {l : List Int} (hb : Bytes l) (at_ w : Int) : ∀ m, Bytes (lay l at_ w m)
  | 0 => hb
  | m + 1 => fun x hx => by
    rcases List.mem_or_eq_of_mem_set hx with h | rfl
    · exact lay_bytes hb at_ w m x h
    · omega
theorem CoreD.Wf.put {d : CoreD} (wf : d.Wf) (op at_ x : Int) (ha : U32 at_) : (d.put op at_ x).Wf := by
  unfold CoreD.put
  split
  · rename_i hok
    have e : mStore d.m op at_ x = lay d.m at_ x (msize op).toNat := by unfold mStore; rw [if_pos hok]
    exact ⟨wf.h, by show Bytes (mStore d.m op at_ x); rw [e]; exact lay_bytes wf.m _ _ _, wf.out, ha, mod_lo _, by show (mStore d.m op at_ x).length ≤ _; rw [mStore_length]; exact wf.mlen, wf.olen⟩
  · exact wf
theorem CoreD.put_h (d : CoreD) (op at_ x : Int) : (d.put op at_ x).h = d.h := by unfold CoreD.put; split <;> rfl
theorem CoreD.put_out (d : CoreD) (op at_ x : Int) : (d.put op at_ x).out = d.out := by unfold CoreD.put; split <;> rfl
theorem CoreD.put_mlen (d : CoreD) (op at_ x : Int) : (d.put op at_ x).m.length = d.m.length := by unfold CoreD.put; split <;> simp [mStore_length]
theorem atomS_wf {d : CoreD} (wf : d.Wf) (op a b : Int) (ha : U32 a) (hb : U32 b) : (atomS d op a b).1.Wf ∧ U32 (atomS d op a b).2.1 := by
  have hl := mLoad_u d.m 13 a om ha wf.m.getD
  unfold atomS
  split
  · split
    · exact ⟨wf.hold _ _ ha, hl⟩
    · split
      · split
        · exact ⟨(wf.put _ _ _ ha).hold _ _ (by unfold U32; omega), by show U32 0; unfold U32; omega⟩
        · exact ⟨wf.hold _ _ (by unfold U32; omega), by show U32 1; unfold U32; omega⟩
      · exact ⟨wf.put _ _ _ ha, hl⟩
  · exact ⟨wf.trap _ (by split <;> omega), by show U32 0; unfold U32; omega⟩
theorem callS_wf {d : CoreD} (wf : d.Wf) (ho : d.out.length < 1099511627776) : (callS d).1.Wf := by
  unfold callS
  split
  · exact ⟨⟨wf.h.len, wf.h.regs, wf.h.pc, wf.h.heldAt, ⟨(by decide : (-9223372036854775808 : Int) ≤ 1), (by decide : (1 : Int) ≤ 9223372036854775807)⟩, wf.h.cause⟩, wf.m, wf.out, wf.fr, wf.tw, wf.mlen, wf.olen⟩
  · split
    · refine ⟨wf.h, wf.m, fun x hx => ?_, wf.fr, wf.tw, wf.mlen, by show (d.out ++ [d.h.reg 10]).length ≤ _; rw [List.length_append, List.length_singleton]; omega⟩
      rcases List.mem_append.1 hx with h | h
      · exact wf.out x h
      · rw [List.mem_singleton] at h; subst h; exact reg_u wf.h _
    · exact wf.trap _ om
theorem ite_ind {α : Type} {P : α → Prop} {c : Prop} [Decidable c] {x y : α} (h1 : c → P x) (h2 : ¬ c → P y) : P (if c then x else y) := by
  by_cases h : c
  · rw [if_pos h]; exact h1 h
  · rw [if_neg h]; exact h2 h
theorem doS_wf {d : CoreD} (wf : d.Wf) (i : InsD) (ho : d.out.length < 1099511627776) : (doS i d).Wf := by
  have ha := reg_u wf.h i.rs1
  have hb := reg_u wf.h i.rs2
  have hn : U32 (i.imm % 4294967296) := mod_lo _
  unfold doS
  dsimp only
  repeat' (refine ite_ind (P := CoreD.Wf) (fun _ => ?_) (fun _ => ?_))
  all_goals first
    | exact wf.setPc _ (ite_lo (mod_lo _) (mod_lo _))
    | exact (wf.set _ _ (mod_lo _)).setPc _ (mod_lo _)
    | exact (wf.set _ _ (mod_lo _)).setPc _ (by unfold U32; omega)
    | exact wf.setPc _ (mod_lo _)
    | exact (wf.set _ _ (mLoad_u _ _ _ om (mod_lo _) wf.m.getD)).setPc _ (mod_lo _)
    | exact (wf.put _ _ _ (mod_lo _)).setPc _ (mod_lo _)
    | exact (wf.set _ _ (alu_lo _ _ _ ha hn)).setPc _ (mod_lo _)
    | exact (wf.set _ _ (alu_lo _ _ _ ha hb)).setPc _ (mod_lo _)
    | exact ((atomS_wf wf _ _ _ ha hb).1.set _ _ (atomS_wf wf _ _ _ ha hb).2).setPc _ (mod_lo _)
    | exact (atomS_wf wf _ _ _ ha hb).1
    | exact (callS_wf wf ho).setPc _ (mod_lo _)
    | exact callS_wf wf ho
    | exact wf.trap _ om
theorem CoreD.Wf.none {d : CoreD} (wf : d.Wf) : d.none.Wf := ⟨wf.h, wf.m, wf.out, by show U32 0; unfold U32; omega, by show U32 0; unfold U32; omega, wf.mlen, wf.olen⟩
theorem fetchS_c (l : List Int) (pc : Int) : (fetchS l pc).2 = 0 ∨ (fetchS l pc).2 = 1 ∨ (fetchS l pc).2 = 2 := by
  unfold fetchS
  split
  · cases dec (mLoad l 13 pc) <;> simp
  · simp
theorem goS_wf {d : CoreD} (wf : d.Wf) (ho : d.out.length < 1099511627776) : (goS d).Wf := by
  unfold goS
  have := fetchS_c d.m d.h.pc
  split
  · exact doS_wf wf.none _ ho
  · exact wf.none.trap _ om
theorem andNot1 (x : Int) (hx : U32 x) : bits .andNot .u32 x 1 = x - x % 2 := by
  obtain ⟨n, rfl⟩ := Int.eq_ofNat_of_zero_le hx.1
  have hn : n < 4294967296 := by have := hx.2; omega
  show IntKind.u32.wrap (((BitVec.ofInt 32 (n : Int) &&& ~~~ BitVec.ofInt 32 1).toNat : Nat) : Int) = _
  have hb : ∀ i : Fin 32, (BitVec.ofInt 32 1).getLsbD i.val = decide (i.val < 1) := by decide
  have e : BitVec.ofInt 32 (n : Int) &&& ~~~ BitVec.ofInt 32 1 = (BitVec.ofInt 32 (n : Int) >>> 1) <<< 1 := by
    apply BitVec.eq_of_getLsbD_eq
    intro i hi
    rw [BitVec.getLsbD_and, BitVec.getLsbD_not, hb ⟨i, hi⟩, BitVec.getLsbD_shiftLeft, BitVec.getLsbD_ushiftRight]
    by_cases h : i < 1
    · simp [h, hi]
    · simp [h, hi]; rw [show 1 + (i - 1) = i from om, BitVec.getLsbD_eq_getElem hi]
  rw [e, BitVec.toNat_shiftLeft, BitVec.toNat_ushiftRight, BitVec.ofInt_natCast, BitVec.toNat_ofNat, IntKind.wrap_u32, Nat.shiftLeft_eq, Nat.shiftRight_eq_div_pow]
  omega
theorem below_setCells {B : Nat} {a : World} {b : Nat} (hb : B ≤ b) : ∀ (vs : List Value) (o : Nat) (w : World), Below B a w → Below B a (w.setCells b o vs)
  | [], _, _, h => h
  | v :: r, o, w, h => below_setCells hb r (o + 1) _ (h.setCell hb v)
theorem at_setCells {b' off : Nat} {xs : List Value} {b : Nat} (hne : b ≠ b') : ∀ (vs : List Value) (o : Nat) (w : World), At w b' off xs → At (w.setCells b o vs) b' off xs
  | [], _, _, h => h
  | v :: r, o, w, h => at_setCells hne r (o + 1) _ (h.set_other hne v)
theorem sl_setCells {v : Value} {s n : Nat} {xs : List Value} {b : Nat} (hne : ∀ b' off n c, v = .slice (some ⟨b', off, none⟩) n c → b ≠ b') : ∀ (vs : List Value) (o : Nat) (w : World), Sl w v s n xs → Sl (w.setCells b o vs) v s n xs
  | [], _, _, h => h
  | u :: r, o, w, h => sl_setCells hne r (o + 1) _ (h.set_other hne u)
theorem there_at {w : World} {b o n : Nat} {xs : List Value} (h : At w b o xs) (hn : xs.length = n) (hf : ∀ o, w.frozen? ⟨b, o, none⟩ = false) : w.there b o n := fun j hj => by
  have h1 := h j om
  exact ⟨by rw [h1]; rfl, hf _⟩
theorem load_setCells {P : Program} {w : World} {b o : Nat} {cs : Array Value} {ty : TypeId} {d : TypeDesc} (ht : w.there b o cs.size) (hu : P.underlying ty = some d) (hd : d.isRow = true) (hi : (P.info? ty).map (·.size) = some cs.size) :
    (loadVar ty ⟨b, o, none⟩).run P (w.setCells b o cs.toList) = .ok (.agg cs) (w.setCells b o cs.toList) := by
  have hr := World.rangeAt_setCells_same w b o cs.toList (by simpa using ht)
  have := run_loadVar_mid (P := P) (w.setCells b o cs.toList) b o ty cs.toList d hr hu hd (by simpa using hi)
  simpa using this
theorem CoreAt.init {w : World} {hb ho : Nat} {vm : Value} {ty tC : TypeId} {h : Hart} {l : List Int} (hat : At w hb ho (hlist h)) (hfz : ∀ o, w.frozen? ⟨hb, o, none⟩ = false) (hlt : hb < w.heap.size)
    (hv : Ints .u8 w vm l) (hm : ∀ b off n c, vm = .slice (some ⟨b, off, none⟩) n c → b ≠ hb ∧ b < w.heap.size ∧ ∀ o, w.frozen? ⟨b, o, none⟩ = false) (hml : ∀ k, vm.ownBlock = some k → k < w.heap.size) :
    CoreAt w.heap.size hb ho vm ty (w.alloc (.cells #[.pointer (some ⟨hb, ho, none⟩), vm, .slice none 0 0, .int .u32 0, .int .u32 0] tC)) ⟨h, l, [], 0, 0⟩ := by
  have hB : Below w.heap.size w (w.alloc (.cells #[.pointer (some ⟨hb, ho, none⟩), vm, .slice none 0 0, .int .u32 0, .int .u32 0] tC)) := Below.alloc br (Nat.le_refl _) _
  refine ⟨hlt, by simp, by simp, by simp, by simp, fun o => ?_, hat.below hB, fun o => ?_, hv.below hB, fun b off n c e => ?_, ⟨.slice none 0 0, by simp, World.ownsRow_nil _ _ _ _⟩, hml⟩
  · unfold World.frozen?; rw [heap_alloc_new]; simp
  · exact (hB.frozen (p := ⟨hb, o, none⟩) hlt).trans (hfz o)
  · obtain ⟨x1, x2, x3⟩ := hm b off n c e
    exact ⟨x2, x1, by simp; omega, fun o => (hB.frozen (p := ⟨b, o, none⟩) x2).trans (x3 o)⟩
def hart0 : Hart := ⟨List.replicate 32 0, 0, false, 0, 0, 0⟩
structure Run (n : Nat) (d : CoreD) : Prop where
  ok : d.h.ok = true
  st : d.h.state = 0
  ml : d.m.length = n
  ol : d.out.length ≤ 1
structure Fin0 (d0 d : CoreD) : Prop where
  ok : d.h.ok = true
  ml : d.m.length = d0.m.length
  ol : d.out.length ≤ 1
  no : ¬ d.h.state = 0 → { d.h with state := d0.h.state, cause := d0.h.cause } = d0.h ∧ d.m = d0.m ∧ d.out = d0.out
theorem Run.fin {d0 d : CoreD} (h : Run d0.m.length d) : Fin0 d0 d := ⟨h.ok, h.ml, h.ol, fun e => absurd h.st e⟩
theorem ok_parts {h : Hart} (hs : h.state = 0) : h.ok = true ↔ h.regs.getD 0 0 = 0 ∧ (h.held = true ∨ h.heldAt = 0) ∧ h.cause = 0 := by
  unfold Hart.ok
  rw [hs]
  simp only [Bool.and_eq_true, Bool.or_eq_true, beq_iff_eq, decide_eq_true_eq]
  constructor
  · rintro ⟨⟨h1, h2⟩, h3 | h3⟩
    · exact absurd h3.1.1 zN
    · exact ⟨h1, h2, h3.2⟩
  · rintro ⟨h1, h2, h3⟩
    exact ⟨⟨h1, h2⟩, .inr ⟨.inl (by first | rfl | trivial), h3⟩⟩
theorem Run.set {n : Nat} {d : CoreD} (h : Run n d) (r x : Int) : Run n (d.set r x) := by
  refine ⟨?_, ?_, h.ml, h.ol⟩
  · have hs : (d.set r x).h.state = 0 := by unfold CoreD.set Hart.setReg; split <;> exact h.st
    rw [ok_parts hs]
    have h0 := (ok_parts h.st).1 h.ok
    unfold CoreD.set Hart.setReg
    split
    · refine ⟨?_, h0.2⟩
      show (d.h.regs.set r.toNat x).getD 0 0 = 0
      rw [List.getD, List.getElem?_set_ne om]
      exact h0.1
    · exact h0
  · unfold CoreD.set Hart.setReg; split <;> exact h.st
theorem Run.setPc {n : Nat} {d : CoreD} (h : Run n d) (x : Int) : Run n (d.setPc x) := ⟨h.ok, h.st, h.ml, h.ol⟩
theorem Run.hold {n : Nat} {d : CoreD} (h : Run n d) (b : Bool) (x : Int) (hx : b = true ∨ x = 0) : Run n (d.hold b x) := by
  refine ⟨?_, h.st, h.ml, h.ol⟩
  have h0 := (ok_parts h.st).1 h.ok
  exact (ok_parts (h := (d.hold b x).h) h.st).2 ⟨h0.1, hx, h0.2.2⟩
theorem Run.put {n : Nat} {d : CoreD} (h : Run n d) (op at_ x : Int) : Run n (d.put op at_ x) :=
  ⟨by rw [CoreD.put_h]; exact h.ok, by rw [CoreD.put_h]; exact h.st, by rw [CoreD.put_mlen]; exact h.ml, by rw [CoreD.put_out]; exact h.ol⟩
theorem Run.trap {d : CoreD} (h : Run d.m.length d) (c : Int) (hc : 1 ≤ c ∧ c ≤ 6) : Fin0 d (d.trap c) := by
  refine ⟨?_, rfl, h.ol, fun _ => ⟨rfl, rfl, rfl⟩⟩
  have h0 := (ok_parts h.st).1 h.ok
  unfold Hart.ok CoreD.trap Hart.trap
  simp only [Bool.and_eq_true, Bool.or_eq_true, beq_iff_eq, decide_eq_true_eq]
  exact ⟨⟨h0.1, h0.2.1⟩, .inl ⟨⟨by first | rfl | trivial, hc.1⟩, hc.2⟩⟩
theorem atomS_run {d : CoreD} (h : Run d.m.length d) (op a b : Int) : ((atomS d op a b).2.2 = true ∧ Run d.m.length (atomS d op a b).1) ∨ ((atomS d op a b).2.2 = false ∧ Fin0 d (atomS d op a b).1) := by
  unfold atomS
  split
  · split
    · exact .inl ⟨rfl, h.hold true a (.inl (by first | rfl | trivial))⟩
    · split
      · split
        · exact .inl ⟨by first | rfl | trivial, (h.put _ _ _).hold false 0 (.inr rfl)⟩
        · exact .inl ⟨rfl, h.hold false 0 (.inr rfl)⟩
      · exact .inl ⟨rfl, h.put _ _ _⟩
  · exact .inr ⟨rfl, h.trap _ (by split <;> omega)⟩
theorem callS_run {d : CoreD} (h : Run d.m.length d) (ho : d.out = []) : ((callS d).2 = true ∧ Run d.m.length (callS d).1) ∨ ((callS d).2 = false ∧ Fin0 d (callS d).1) := by
  unfold callS
  split
  · refine .inr ⟨rfl, ?_, rfl, h.ol, fun _ => ⟨rfl, rfl, rfl⟩⟩
    have h0 := (ok_parts h.st).1 h.ok
    unfold Hart.ok
    simp only [Bool.and_eq_true, Bool.or_eq_true, beq_iff_eq, decide_eq_true_eq]
    exact ⟨⟨h0.1, h0.2.1⟩, .inr ⟨.inr trivial, h0.2.2⟩⟩
  · split
    · exact .inl ⟨rfl, h.ok, h.st, rfl, by show (d.out ++ [d.h.reg 10]).length ≤ 1; rw [ho]; simp⟩
    · exact .inr ⟨rfl, h.trap 5 om⟩
theorem doS_fin {d : CoreD} (h : Run d.m.length d) (ho : d.out = []) (i : InsD) : Fin0 d (doS i d) := by
  unfold doS
  dsimp only
  repeat' (refine ite_ind (P := Fin0 d) (fun _ => ?_) (fun _ => ?_))
  all_goals first
    | exact Run.fin ((h.set _ _).setPc _)
    | exact Run.fin (h.setPc _)
    | exact Run.fin ((h.put _ _ _).setPc _)
    | exact h.trap _ om
    | (rename_i hq; rcases atomS_run h i.op (d.h.reg i.rs1) (d.h.reg i.rs2) with ⟨e, hr⟩ | ⟨e, hr⟩
       · exact Run.fin ((hr.set _ _).setPc _)
       · exact absurd hq (by rw [e]; decide))
    | (rename_i hq; rcases atomS_run h i.op (d.h.reg i.rs1) (d.h.reg i.rs2) with ⟨e, hr⟩ | ⟨e, hr⟩
       · exact absurd e hq
       · exact hr)
    | (rename_i hq; rcases callS_run h ho with ⟨e, hr⟩ | ⟨e, hr⟩
       · exact Run.fin (hr.setPc _)
       · exact absurd hq (by rw [e]; decide))
    | (rename_i hq; rcases callS_run h ho with ⟨e, hr⟩ | ⟨e, hr⟩
       · exact absurd e hq
       · exact hr)
theorem goS_fin (h : Hart) (l : List Int) (hok : h.ok = true) (hst : h.state = 0) : Fin0 ⟨h, l, [], 0, 0⟩ (goS ⟨h, l, [], 0, 0⟩) := by
  have hr : Run l.length ⟨h, l, [], 0, 0⟩ := ⟨hok, hst, rfl, by simp⟩
  have hc := fetchS_c l h.pc
  unfold goS
  dsimp only
  split
  · exact doS_fin (d := CoreD.none ⟨h, l, [], 0, 0⟩) hr rfl _
  · exact Run.trap (d := CoreD.none ⟨h, l, [], 0, 0⟩) hr _ om
def lose (fr tw : Int) (h : Hart) : Hart := if (h.held && decide (fr < (h.heldAt + 4) % 4294967296) && decide (h.heldAt < tw)) = true then { h with held := false, heldAt := 0 } else h
def loseTo (k : Nat) (fr tw : Int) (n : Nat) (hs : List Hart) : List Hart := hs.mapIdx fun j h => if j < n ∧ j ≠ k then lose fr tw h else h
theorem loseTo_zero (k : Nat) (fr tw : Int) (hs : List Hart) : loseTo k fr tw 0 hs = hs := by
  unfold loseTo
  apply List.ext_getElem
  · simp
  · intro i h1 h2; simp
theorem loseTo_len (k : Nat) (fr tw : Int) (n : Nat) (hs : List Hart) : (loseTo k fr tw n hs).length = hs.length := by simp [loseTo]
theorem loseTo_get (k : Nat) (fr tw : Int) (n : Nat) (hs : List Hart) (i : Nat) (h : i < hs.length) : (loseTo k fr tw n hs)[i]'(by rw [loseTo_len]; exact h) = if i < n ∧ i ≠ k then lose fr tw hs[i] else hs[i] := by simp [loseTo]
theorem loseTo_self (k : Nat) (fr tw : Int) (hs : List Hart) : loseTo k fr tw (k + 1) hs = loseTo k fr tw k hs := by
  apply List.ext_getElem
  · simp [loseTo_len]
  · intro i h1 h2
    rw [loseTo_len] at h1
    rw [loseTo_get _ _ _ _ _ _ h1, loseTo_get _ _ _ _ _ _ h1]
    by_cases e : i = k
    · subst e; simp
    · simp only [show (i < k + 1) = (i < k) from propext ⟨fun h => om, fun h => om⟩]
theorem loseTo_succ {k n : Nat} (fr tw : Int) (hs : List Hart) (hn : n < hs.length) (hk : n ≠ k) : loseTo k fr tw (n + 1) hs = (loseTo k fr tw n hs).set n (lose fr tw hs[n]) := by
  apply List.ext_getElem
  · simp [loseTo_len]
  · intro i h1 h2
    rw [loseTo_len] at h1
    rw [loseTo_get _ _ _ _ _ _ h1, List.getElem_set]
    by_cases e : n = i
    · subst e; rw [if_pos rfl, if_pos ⟨om, hk⟩]
    · rw [if_neg e, loseTo_get _ _ _ _ _ _ h1]
      simp only [show (i < n + 1) = (i < n) from propext ⟨fun h => om, fun h => om⟩]
theorem loseTo_keep {k n : Nat} (fr tw : Int) (hs : List Hart) (hn : n < hs.length) (hl : lose fr tw hs[n] = hs[n]) : loseTo k fr tw (n + 1) hs = loseTo k fr tw n hs := by
  by_cases hk : n = k
  · subst hk; exact loseTo_self _ _ _ _
  · rw [loseTo_succ fr tw hs hn hk, hl]
    apply List.ext_getElem
    · simp
    · intro i h1 h2
      rw [List.getElem_set]
      split
      · rename_i e; subst e; rw [loseTo_get _ _ _ _ _ _ hn, if_neg om]
      · rfl
theorem loseTo_at {k n : Nat} (fr tw : Int) (hs : List Hart) (hn : n < hs.length) : (loseTo k fr tw n hs)[n]'(by rw [loseTo_len]; exact hn) = hs[n] := by
  rw [loseTo_get _ _ _ _ _ _ hn, if_neg om]
structure St where
  harts : List Hart
  mem : List Int
  out : List Int
  steps : Nat
def St.hart (s : St) (k : Nat) : Hart := s.harts.getD k hart0
def goM (k : Nat) (s : St) : St :=
  let d := goS (⟨s.hart k, s.mem, [], 0, 0⟩ : CoreD)
  ⟨loseTo k d.fr d.tw s.harts.length (s.harts.set k d.h), d.m, s.out ++ d.out, s.steps + 1⟩
def pickM (k : Nat) : Nat → St → St
  | 0, s => s
  | n + 1, s => if (s.hart k).state = 0 then pickM k n (goM k s) else s
def playM : List (Int × Int) → St → St
  | [], s => s
  | p :: r, s => playM r (pickM p.1.toNat p.2.toNat s)
def startM (m : Mach) : St := ⟨m.harts, m.mem, [], 0⟩
def runM (m : Mach) (l : List (Int × Int)) : St := if wrong m l = 0 then playM l (startM m) else ⟨[], [], [], 0⟩
def CoreD.pre (o : List Int) (d : CoreD) : CoreD := { d with out := o ++ d.out }
theorem pre_ite {c : Prop} [Decidable c] (o : List Int) (x y : CoreD) : (if c then x else y).pre o = if c then x.pre o else y.pre o := by split <;> rfl
theorem pre_put (o : List Int) (d : CoreD) (op a x : Int) : (d.pre o).put op a x = (d.put op a x).pre o := by
  unfold CoreD.put CoreD.pre
  dsimp only
  split <;> rfl
theorem pre_atom (o : List Int) (d : CoreD) (op a b : Int) : atomS (d.pre o) op a b = ((atomS d op a b).1.pre o, (atomS d op a b).2) := by
  unfold atomS
  simp only [pre_put]
  show (if mLoadOk d.m 13 a = true then _ else _) = _
  split
  · split
    · rfl
    · split
      · show (if (d.h.held && d.h.heldAt == a) = true then _ else _) = _
        split <;> rfl
      · rfl
  · rfl
theorem pre_call (o : List Int) (d : CoreD) : callS (d.pre o) = ((callS d).1.pre o, (callS d).2) := by
  unfold callS
  show (if d.h.reg 17 = 0 then _ else _) = _
  split
  · rfl
  · show (if d.h.reg 17 = 1 then _ else _) = _
    split
    · show (({ d with out := (o ++ d.out) ++ [d.h.reg 10] } : CoreD), true) = _
      rw [List.append_assoc]; rfl
    · rfl
theorem pre_do (o : List Int) (d : CoreD) (i : InsD) : doS i (d.pre o) = (doS i d).pre o := by
  unfold doS
  dsimp only
  simp only [pre_put, pre_atom, pre_call, pre_ite]
  rfl
theorem pre_go (o : List Int) (d : CoreD) : goS (d.pre o) = (goS d).pre o := by
  unfold goS
  show (if (fetchS d.m d.h.pc).2 = 0 then doS (fetchS d.m d.h.pc).1 (d.none.pre o) else (d.none.trap (fetchS d.m d.h.pc).2).pre o) = _
  rw [pre_do, pre_ite]
theorem goS_out (d : CoreD) : goS d = (goS (⟨d.h, d.m, [], 0, 0⟩ : CoreD)).pre d.out := by
  rw [← pre_go]
  show goS d = goS (⟨d.h, d.m, d.out ++ [], 0, 0⟩ : CoreD)
  rw [List.append_nil]
  rfl
structure St.Wf (s : St) : Prop where
  harts : ∀ h ∈ s.harts, h.Wf
  mem : Bytes s.mem
  mlen : s.mem.length ≤ 4096
  out : ∀ x ∈ s.out, U32 x
theorem hart0_wf : hart0.Wf := ⟨rfl, by intro x hx; have := List.eq_of_mem_replicate hx; subst this; exact ⟨by decide, by decide⟩, ⟨by decide, by decide⟩, ⟨by decide, by decide⟩, ⟨by decide, by decide⟩, ⟨by decide, by decide⟩⟩
theorem St.hart_at {s : St} {k : Nat} (h : k < s.harts.length) : s.hart k = s.harts[k] := by
  unfold St.hart; rw [List.getD, List.getElem?_eq_getElem h]; rfl
theorem St.Wf.hart {s : St} (h : s.Wf) (k : Nat) : (s.hart k).Wf := by
  by_cases hk : k < s.harts.length
  · rw [St.hart_at hk]; exact h.harts _ (List.getElem_mem hk)
  · unfold St.hart; rw [List.getD, List.getElem?_eq_none om]; exact hart0_wf
theorem St.Wf.core {s : St} (h : s.Wf) (k : Nat) : (⟨s.hart k, s.mem, [], 0, 0⟩ : CoreD).Wf :=
  ⟨h.hart k, h.mem, by simp, (⟨by decide, by decide⟩ : U32 0), (⟨by decide, by decide⟩ : U32 0), (by show s.mem.length ≤ _; have := h.mlen; omega), by simp⟩
theorem lose_wf {fr tw : Int} {h : Hart} (wf : h.Wf) : (lose fr tw h).Wf := by
  unfold lose
  split
  · exact ⟨wf.len, wf.regs, wf.pc, (⟨by decide, by decide⟩ : U32 0), wf.state, wf.cause⟩
  · exact wf
theorem lose_ok {fr tw : Int} {h : Hart} (ok : h.ok = true) : (lose fr tw h).ok = true := by
  unfold lose
  split
  · unfold Hart.ok at ok ⊢
    simp only [Bool.and_eq_true, Bool.or_eq_true, beq_iff_eq, decide_eq_true_eq] at ok ⊢
    exact ⟨⟨ok.1.1, .inr trivial⟩, ok.2⟩
  · exact ok
theorem mem_loseTo {k : Nat} {fr tw : Int} {n : Nat} {hs : List Hart} {P : Hart → Prop} (hp : ∀ h ∈ hs, P h) (hl : ∀ h, P h → P (lose fr tw h)) : ∀ h ∈ loseTo k fr tw n hs, P h := by
  intro h hh
  obtain ⟨i, hi, rfl⟩ := List.getElem_of_mem hh
  have hi' : i < hs.length := by rw [loseTo_len] at hi; exact hi
  rw [loseTo_get _ _ _ _ _ _ hi']
  split
  · exact hl _ (hp _ (List.getElem_mem hi'))
  · exact hp _ (List.getElem_mem hi')
theorem goS_mlen (d : CoreD) (i : InsD) : (doS i d).m.length = d.m.length := by
  unfold doS
  dsimp only
  have ha : (atomS d i.op (d.h.reg i.rs1) (d.h.reg i.rs2)).1.m.length = d.m.length := by
    unfold atomS
    repeat' (refine ite_ind (P := fun p : CoreD × Int × Bool => p.1.m.length = d.m.length) (fun _ => ?_) (fun _ => ?_))
    all_goals first | rfl | exact CoreD.put_mlen _ _ _ _
  have hc : (callS d).1.m = d.m := by
    unfold callS
    repeat' (refine ite_ind (P := fun p : CoreD × Bool => p.1.m = d.m) (fun _ => ?_) (fun _ => ?_))
    all_goals rfl
  repeat' (refine ite_ind (P := fun p : CoreD => p.m.length = d.m.length) (fun _ => ?_) (fun _ => ?_))
  all_goals first
    | rfl
    | exact CoreD.put_mlen _ _ _ _
    | exact ha
    | exact mStore_length _ _ _ _
    | (show (callS d).1.m.length = _; rw [hc])
theorem goS_ml (d : CoreD) : (goS d).m.length = d.m.length := by
  unfold goS
  split
  · exact goS_mlen _ _
  · rfl
theorem goM_len (k : Nat) (s : St) : (goM k s).harts.length = s.harts.length := by
  show (loseTo _ _ _ _ _).length = _
  rw [loseTo_len, List.length_set]
theorem goM_wf {k : Nat} {s : St} (wf : s.Wf) : (goM k s).Wf := by
  have h := goS_wf (wf.core k) zH
  refine ⟨mem_loseTo (P := Hart.Wf) ?_ (fun _ => lose_wf), h.m, ?_, ?_⟩
  · intro x hx
    rcases List.mem_or_eq_of_mem_set hx with hx | rfl
    · exact wf.harts _ hx
    · exact h.h
  · show (goS _).m.length ≤ _
    rw [goS_ml]; exact wf.mlen
  · intro x hx
    rcases List.mem_append.1 hx with hx | hx
    · exact wf.out _ hx
    · exact h.out _ hx
theorem pickM_len {k : Nat} : ∀ (n : Nat) (s : St), (pickM k n s).harts.length = s.harts.length
  | 0, _ => rfl
  | n + 1, s => by
    unfold pickM
    split
    · rw [pickM_len n, goM_len]
    · rfl
theorem playM_len : ∀ (l : List (Int × Int)) (s : St), (playM l s).harts.length = s.harts.length
  | [], _ => rfl
  | _ :: r, _ => by unfold playM; rw [playM_len r, pickM_len]
theorem pickM_stop {k : Nat} {s : St} (h : ¬ (s.hart k).state = 0) (n : Nat) : pickM k n s = s := by
  cases n with
  | zero => rfl
  | succ n => unfold pickM; rw [if_neg h]
theorem wrong_parts {m : Mach} {l : List (Int × Int)} (h : wrong m l = 0) : m.mem.length ≤ 4096 ∧ 1 ≤ m.harts.length ∧ m.harts.length ≤ 4 ∧ (∀ x ∈ m.harts, x.ok = true) ∧ l.length ≤ 300 ∧ ∀ p ∈ l, 0 ≤ p.1 ∧ p.1 < m.harts.length ∧ 0 ≤ p.2 ∧ p.2 ≤ 400 := by
  unfold wrong at h
  split at h
  · cases h
  split at h
  · cases h
  split at h
  · cases h
  split at h
  · cases h
  rename_i h1 h2 h3 h4
  refine ⟨om, om, om, fun x hx => ?_, om, fun p hp => ?_⟩
  · cases e : x.ok with
    | true => rfl
    | false => exact absurd (List.any_eq_true.2 ⟨x, hx, by simp [e]⟩) h2
  · have : badPick m.harts.length p = false := by
      cases e : badPick m.harts.length p with
      | false => rfl
      | true => exact absurd (List.any_eq_true.2 ⟨p, hp, e⟩) h4
    unfold badPick at this
    simp only [Bool.or_eq_false_iff, decide_eq_false_iff_not] at this
    omega
structure St.Good (s : St) : Prop where
  wf : s.Wf
  ok : ∀ h ∈ s.harts, h.ok = true
  ol : s.out.length ≤ s.steps
theorem St.Good.hart {s : St} (h : s.Good) (k : Nat) : (s.hart k).ok = true := by
  by_cases hk : k < s.harts.length
  · rw [St.hart_at hk]; exact h.ok _ (List.getElem_mem hk)
  · unfold St.hart; rw [List.getD, List.getElem?_eq_none om]; rfl
theorem goM_ml (k : Nat) (s : St) : (goM k s).mem.length = s.mem.length := by
  show (goS _).m.length = _
  rw [goS_ml]
theorem goM_good {k : Nat} {s : St} (h : s.Good) (hs : (s.hart k).state = 0) : (goM k s).Good := by
  have hf := goS_fin (s.hart k) s.mem (h.hart k) hs
  refine ⟨goM_wf h.wf, mem_loseTo (P := fun h => h.ok = true) ?_ (fun _ => lose_ok), ?_⟩
  · intro x hx
    rcases List.mem_or_eq_of_mem_set hx with hx | rfl
    · exact h.ok _ hx
    · exact hf.ok
  · show (s.out ++ (goS _).out).length ≤ s.steps + 1
    have h1 := hf.ol
    have h2 := h.ol
    rw [List.length_append]
    omega
theorem pickM_good {k : Nat} : ∀ (n : Nat) {s : St}, s.Good → (pickM k n s).Good
  | 0, _, h => h
  | n + 1, s, h => by
    unfold pickM
    split
    · rename_i hs; exact pickM_good n (goM_good h hs)
    · exact h
theorem playM_good : ∀ (l : List (Int × Int)) {s : St}, s.Good → (playM l s).Good
  | [], _, h => h
  | _ :: r, _, h => playM_good r (pickM_good _ h)
theorem pickM_ml {k : Nat} : ∀ (n : Nat) (s : St), (pickM k n s).mem.length = s.mem.length
  | 0, _ => rfl
  | n + 1, s => by
    unfold pickM
    split
    · rw [pickM_ml n, goM_ml]
    · rfl
theorem playM_ml : ∀ (l : List (Int × Int)) (s : St), (playM l s).mem.length = s.mem.length
  | [], _ => rfl
  | _ :: r, s => by unfold playM; rw [playM_ml r, pickM_ml]
theorem pickM_steps {k : Nat} : ∀ (n : Nat) (s : St), (pickM k n s).steps ≤ s.steps + n
  | 0, _ => Nat.le_refl _
  | n + 1, s => by
    unfold pickM
    split
    · have := pickM_steps (k := k) n (goM k s)
      have h2 : (goM k s).steps = s.steps + 1 := rfl
      omega
    · omega
theorem playM_steps : ∀ (l : List (Int × Int)) (s : St), (∀ p ∈ l, p.2 ≤ 400) → (playM l s).steps ≤ s.steps + 400 * l.length
  | [], _, _ => Nat.le_refl _
  | p :: r, s, h => by
    unfold playM
    have h1 := playM_steps r (pickM p.1.toNat p.2.toNat s) (fun q hq => h q (by simp [hq]))
    have h2 := pickM_steps (k := p.1.toNat) p.2.toNat s
    have h3 := h p zH
    rw [List.length_cons]
    omega
theorem startM_good {m : Mach} {l : List (Int × Int)} (wf : m.Wf) (h : wrong m l = 0) : (startM m).Good := by
  obtain ⟨h1, h2, h3, h4, _⟩ := wrong_parts h
  exact ⟨⟨wf.harts, wf.mem, h1, by intro x hx; cases hx⟩, h4, Nat.le_refl _⟩
theorem wrong_of {m : Mach} {l : List (Int × Int)} (h1 : m.mem.length ≤ 4096) (h2 : 1 ≤ m.harts.length) (h3 : m.harts.length ≤ 4) (h4 : ∀ x ∈ m.harts, x.ok = true) (h5 : l.length ≤ 300) (h6 : ∀ p ∈ l, 0 ≤ p.1 ∧ p.1 < m.harts.length ∧ 0 ≤ p.2 ∧ p.2 ≤ 400) : wrong m l = 0 := by
  unfold wrong
  rw [if_neg om, if_neg, if_neg om, if_neg]
  · rw [List.any_eq_true]
    rintro ⟨p, hp, hb⟩
    have := h6 p hp
    unfold badPick at hb
    simp at hb
    omega
  · rw [List.any_eq_true]
    rintro ⟨x, hx, hb⟩
    rw [h4 x hx] at hb
    cases hb
def St.mach (s : St) : Mach := ⟨s.mem, s.harts⟩
def St.pre (o : List Int) (n : Nat) (s : St) : St := ⟨s.harts, s.mem, o ++ s.out, n + s.steps⟩
theorem playM_append : ∀ (a b : List (Int × Int)) (s : St), playM (a ++ b) s = playM b (playM a s)
  | [], _, _ => rfl
  | p :: r, b, s => by
    show playM (r ++ b) (pickM p.1.toNat p.2.toNat s) = playM b (playM r (pickM p.1.toNat p.2.toNat s))
    exact playM_append r b _
theorem pickM_add {k : Nat} : ∀ (n m : Nat) (s : St), pickM k (n + m) s = pickM k m (pickM k n s)
  | 0, m, s => by rw [Nat.zero_add]; rfl
  | n + 1, m, s => by
    rw [show n + 1 + m = (n + m) + 1 by omega]
    by_cases h : (s.hart k).state = 0
    · have e1 : pickM k (n + m + 1) s = pickM k (n + m) (goM k s) := by conv => lhs; unfold pickM; rw [if_pos h]
      have e2 : pickM k (n + 1) s = pickM k n (goM k s) := by conv => lhs; unfold pickM; rw [if_pos h]
      rw [e1, e2]; exact pickM_add n m (goM k s)
    · rw [pickM_stop h, pickM_stop h, pickM_stop h]
abbrev Rd := List Int × Bool
theorem Bytes.drop {l : List Int} (h : Bytes l) (n : Nat) : Bytes (l.drop n) := fun x hx => h x (List.mem_of_mem_drop hx)
theorem Bytes.take {l : List Int} (h : Bytes l) (n : Nat) : Bytes (l.take n) := fun x hx => h x (List.mem_of_mem_take hx)
section
variable {a : List Int × Rd}
end
theorem owns_block {B : Nat} {e : TypeId} {k : Nat} {v : Value} {n : Nat} {xs : List Value} {w w' : World} (h : w.ownsRow B e k v n xs) (hb : ∀ g, v.ownBlock = some g → w'.heap[g]? = w.heap[g]?) : w'.ownsRow B e k v n xs := by
  obtain ⟨h1, h2⟩ := h
  refine ⟨h1, ?_⟩
  rcases h2 with ⟨rfl, rfl⟩ | ⟨g, cap, cur, rfl, hB, hh, h3⟩
  · exact .inl ⟨rfl, rfl⟩
  · exact .inr ⟨g, cap, cur, rfl, hB, (hb g rfl).trans hh, h3⟩
theorem cell_block {w w' : World} {b : Nat} (h : w'.heap[b]? = w.heap[b]?) (o : Nat) : w'.cell? ⟨b, o, none⟩ = w.cell? ⟨b, o, none⟩ := World.cell?_of_block (a := ⟨b, o, none⟩) h
theorem frozen_block {w w' : World} {b : Nat} (h : w'.heap[b]? = w.heap[b]?) (o : Nat) : w'.frozen? ⟨b, o, none⟩ = w.frozen? ⟨b, o, none⟩ := World.frozen?_of_block (a := ⟨b, o, none⟩) h
theorem sl_block {w w' : World} {v : Value} {s n : Nat} {xs : List Value} (h : Sl w v s n xs) (hb : ∀ g, v.ownBlock = some g → w'.heap[g]? = w.heap[g]?) : Sl w' v s n xs := by
  obtain ⟨h1, ao, cap, h2, h3, h4, h5, h6⟩ := h
  refine ⟨h1, ao, cap, h2, h3, h4, h5, fun a ha hx => ⟨(h6 a ha hx).1, ?_⟩⟩
  obtain ⟨b, off, sp⟩ := a
  have h7 := h6 _ ha hx
  have hs := h7.1
  simp only at hs
  subst hs
  intro j hj
  exact (cell_block (hb b (by rw [h2, ha]; rfl)) _).trans (h7.2 j hj)
theorem At.flat {α : Type} {w : World} {b : Nat} (f : α → List Value) (s : Nat) : ∀ {l : List α} {off : Nat}, (∀ x ∈ l, (f x).length = s) → (∀ i (h : i < l.length), At w b (off + i * s) (f l[i])) → At w b off (l.flatMap f)
  | [], _, _, _ => fun j hj => by simp at hj
  | x :: r, off, hf, h => by
    rw [List.flatMap_cons]
    have hx := hf x zH
    have h0 := h 0 zH
    rw [Nat.zero_mul, Nat.add_zero] at h0
    refine At.append h0 ?_
    rw [hx]
    refine At.flat f s (fun y hy => hf y yQ) (fun i hi => ?_)
    have := h (i + 1) zP
    rw [Nat.add_mul, Nat.one_mul] at this
    rw [show off + s + i * s = off + (i * s + s) by omega]
    exact this
theorem at_harts_set {w w' : World} {b : Nat} {hs : List Hart} {k : Nat} {h' : Hart} (ha : At w b 0 (hs.flatMap hlist)) (hl : ∀ h ∈ hs, (hlist h).length = 37) (hl' : (hlist h').length = 37)
    (hk : At w' b (k * 37) (hlist h')) (hc : ∀ o, (o < k * 37 ∨ k * 37 + 37 ≤ o) → w'.cell? ⟨b, o, none⟩ = w.cell? ⟨b, o, none⟩) : At w' b 0 ((hs.set k h').flatMap hlist) := by
  refine At.flat hlist 37 (fun x hx => ?_) (fun i hi => ?_)
  · rcases List.mem_or_eq_of_mem_set hx with hx | rfl
    · exact hl x hx
    · exact hl'
  · rw [List.length_set] at hi
    rw [List.getElem_set]
    split
    · rename_i e; subst e; rw [Nat.zero_add]; exact hk
    · rename_i e
      have h1 := At.elem hlist 37 hl ha i hi
      intro j hj
      rw [hl _ (List.getElem_mem hi)] at hj
      rw [hc _ om]
      exact h1 j (by rw [hl _ (List.getElem_mem hi)]; exact hj)
theorem at_hart {w : World} {b : Nat} {hs : List Hart} {k : Nat} (ha : At w b 0 (hs.flatMap hlist)) (hl : ∀ h ∈ hs, (hlist h).length = 37) (hk : k < hs.length) : At w b (k * 37) (hlist hs[k]) := by
  have := At.elem hlist 37 hl ha k hk
  rw [Nat.zero_add] at this
  exact this
structure Bd (bp bh hc : Nat) (vm vo : Value) (ty : TypeId) (w : World) (s : St) : Prop where
  b1 : bh < bp
  c0 : w.cell? ⟨bp, 0, none⟩ = some vm
  c1 : w.cell? ⟨bp, 1, none⟩ = some (.slice (some ⟨bh, 0, none⟩) s.harts.length hc)
  c2 : w.cell? ⟨bp, 2, none⟩ = some vo
  c3 : w.cell? ⟨bp, 3, none⟩ = some (.int .i64 s.steps)
  frz : ∀ o, w.frozen? ⟨bp, o, none⟩ = false
  harts : At w bh 0 (s.harts.flatMap hlist)
  hlt : bh < w.heap.size
  hfz : ∀ o, w.frozen? ⟨bh, o, none⟩ = false
  bytes : Ints .u8 w vm s.mem
  mfz : ∀ b off n c, vm = .slice (some ⟨b, off, none⟩) n c → b < w.heap.size ∧ ∀ o, w.frozen? ⟨b, o, none⟩ = false
  mlt : ∀ k, vm.ownBlock = some k → k < bp ∧ k ≠ bh
  own : w.ownsRow (bp + 1) ty 1 vo s.out.length (s.out.map (Value.int .u32))
  hcap : s.harts.length ≤ hc ∧ hc ≤ maxLen
structure Wk (bp bh hc cp k : Nat) (vm vo : Value) (ty : TypeId) (o0 o : List Int) (fr tw : Int) (w : World) (s : St) : Prop where
  core : CoreAt cp bh (k * 37) vm ty w ⟨s.hart k, s.mem, o, fr, tw⟩
  b1 : bh < bp
  b2 : bp < cp
  c0 : w.cell? ⟨bp, 0, none⟩ = some vm
  c1 : w.cell? ⟨bp, 1, none⟩ = some (.slice (some ⟨bh, 0, none⟩) s.harts.length hc)
  c2 : w.cell? ⟨bp, 2, none⟩ = some vo
  c3 : w.cell? ⟨bp, 3, none⟩ = some (.int .i64 s.steps)
  frz : ∀ o, w.frozen? ⟨bp, o, none⟩ = false
  harts : At w bh 0 (s.harts.flatMap hlist)
  mlt : ∀ k, vm.ownBlock = some k → k < bp ∧ k ≠ bh
  own : w.ownsRow (bp + 1) ty 1 vo o0.length (o0.map (Value.int .u32))
  vlt : ∀ g, vo.ownBlock = some g → g < cp
  kl : k < s.harts.length
  hcap : s.harts.length ≤ hc ∧ hc ≤ maxLen
theorem Bd.begin {w : World} {m : Mach} {vm vh : Value} {B1 B2 : Nat} {t1 t2 tB ty : TypeId} (h1 : w.ownsRow B1 t1 1 vm m.mem.length (m.mem.map (Value.int .u8))) (h2 : w.ownsRow B2 t2 37 vh m.harts.length (m.harts.flatMap hlist))
    (hne : ∀ k, vm.ownBlock = some k → vh.ownBlock ≠ some k) (hl : 1 ≤ m.harts.length) :
    ∃ bh hc, vh = .slice (some ⟨bh, 0, none⟩) m.harts.length hc ∧ B2 ≤ bh ∧ Bd w.heap.size bh hc vm (.slice none 0 0) ty (w.alloc (.cells #[vm, vh, .slice none 0 0, .int .i64 0] tB)) (startM m) := by
  rcases owns_open h2 with ⟨_, e, _⟩ | ⟨g, cap, rfl, hB, hg, hn, hm, hat, hf⟩
  · omega
  have hb : Below w.heap.size w (w.alloc (.cells #[vm, .slice (some ⟨g, 0, none⟩) m.harts.length cap, .slice none 0 0, .int .i64 0] tB)) := Below.alloc br (Nat.le_refl _) _
  refine ⟨g, cap, rfl, hB, hg, by simp, by simp [startM], by simp, by simp [startM], fun o => by unfold World.frozen?; rw [heap_alloc_new]; simp, hat.below hb, Nat.lt_of_lt_of_le hg hb.size, fun o => (hb.frozen (p := ⟨g, o, none⟩) hg).trans (hf o), (owns_sl h1).below hb, fun b off n c e => ?_, fun k e => ?_, World.ownsRow_nil _ _ _ _, hn, hm⟩
  · rcases owns_open h1 with ⟨rfl, _⟩ | ⟨g1, c1, rfl, _, hg1, _, _, _, hf1⟩
    · cases e
    · cases e
      exact ⟨Nat.lt_of_lt_of_le hg1 hb.size, fun o => (hb.frozen (p := ⟨b, o, none⟩) hg1).trans (hf1 o)⟩
  · exact ⟨(h1.lt k e).2, fun e2 => hne k e (by rw [e2]; rfl)⟩
section
variable {bp bh hc cp k : Nat} {vm vo : Value} {ty : TypeId} {o0 o : List Int} {fr tw : Int} {w w' : World} {s : St}
theorem CoreAt.move {hb ho : Nat} {d : CoreD} {h' : Hart} (h : CoreAt cp hb ho vm ty w d) (hcp : w'.heap[cp]? = w.heap[cp]?) (hvm : ∀ k, vm.ownBlock = some k → w'.heap[k]? = w.heap[k]?) (hrow : ∀ k, cp < k → k < w.heap.size → w'.heap[k]? = w.heap[k]?)
    (hsz : w.heap.size ≤ w'.heap.size) (hat : At w' hb ho (hlist h')) (hfz : ∀ o, w'.frozen? ⟨hb, o, none⟩ = false) : CoreAt cp hb ho vm ty w' { d with h := h' } := by
  refine ⟨h.hbl, (cell_block hcp _).trans h.ptr, (cell_block hcp _).trans h.mem, (cell_block hcp _).trans h.fr, (cell_block hcp _).trans h.tw, fun o => (frozen_block hcp o).trans (h.frz o), hat, hfz, sl_block h.bytes hvm, fun b off n c e => ?_, ?_, h.mlt⟩
  · obtain ⟨x1, x2, x3, x4⟩ := h.mfz b off n c e
    exact ⟨x1, x2, om, fun o => (frozen_block (hvm b zX) o).trans (x4 o)⟩
  · obtain ⟨vo', y1, y2⟩ := h.row
    refine ⟨vo', (cell_block hcp _).trans y1, owns_block y2 (fun g hg => ?_)⟩
    have := y2.lt g hg
    exact hrow g om this.2
theorem Bd.lt (h : Bd bp bh hc vm vo ty w s) : bp < w.heap.size := lt_of_cell h.c0
theorem Bd.below (h : Bd bp bh hc vm vo ty w s) (hb : Below w.heap.size w w') : Bd bp bh hc vm vo ty w' s := by
  have hl := h.lt
  have e := hb.block bp hl
  have eh := hb.block bh h.hlt
  refine ⟨h.b1, (cell_block e _).trans h.c0, (cell_block e _).trans h.c1, (cell_block e _).trans h.c2, (cell_block e _).trans h.c3, fun o => (frozen_block e o).trans (h.frz o), h.harts.below hb, Nat.lt_of_lt_of_le h.hlt hb.size, fun o => (frozen_block eh o).trans (h.hfz o), h.bytes.below hb, fun b off n c e => ?_, h.mlt, owns_below h.own hb, h.hcap⟩
  obtain ⟨x1, x2⟩ := h.mfz b off n c e
  exact ⟨Nat.lt_of_lt_of_le x1 hb.size, fun o => (frozen_block (hb.block b x1) o).trans (x2 o)⟩
theorem Bd.start {tC : TypeId} (h : Bd bp bh hc vm vo ty w s) (wf : s.Wf) (hk : k < s.harts.length) :
    Wk bp bh hc w.heap.size k vm vo ty s.out [] 0 0 (w.alloc (.cells #[.pointer (some ⟨bh, k * 37, none⟩), vm, .slice none 0 0, .int .u32 0, .int .u32 0] tC)) s := by
  have hB : Below w.heap.size w (w.alloc (.cells #[.pointer (some ⟨bh, k * 37, none⟩), vm, .slice none 0 0, .int .u32 0, .int .u32 0] tC)) := Below.alloc br (Nat.le_refl _) _
  have h2 := h.below hB
  have hat := at_hart h.harts (fun x hx => hlist_length (wf.harts x hx)) hk
  rw [← St.hart_at hk] at hat
  refine ⟨CoreAt.init hat h.hfz h.hlt h.bytes (fun b off n c e => ⟨(h.mlt b zX).2, h.mfz b off n c e⟩) (fun k e => Nat.lt_trans (h.mlt k e).1 h.lt), h.b1, h.lt, h2.c0, h2.c1, h2.c2, h2.c3, h2.frz, h2.harts, h.mlt, h2.own, fun g hg => (h.own.lt g hg).2, hk, h.hcap⟩
theorem Wk.clt (h : Wk bp bh hc cp k vm vo ty o0 o fr tw w s) : cp < w.heap.size := h.core.lt
theorem Wk.below (h : Wk bp bh hc cp k vm vo ty o0 o fr tw w s) (hb : Below w.heap.size w w') : Wk bp bh hc cp k vm vo ty o0 o fr tw w' s := by
  have e := hb.block bp (Nat.lt_trans h.b2 h.clt)
  exact ⟨h.core.below hb, h.b1, h.b2, (cell_block e _).trans h.c0, (cell_block e _).trans h.c1, (cell_block e _).trans h.c2, (cell_block e _).trans h.c3, fun o => (frozen_block e o).trans (h.frz o), h.harts.below hb, h.mlt, owns_below h.own hb, h.vlt, h.kl, h.hcap⟩
theorem Wk.drewN (h : Wk bp bh hc cp k vm vo ty o0 o fr tw w s) (n : Nat) : Wk bp bh hc cp k vm vo ty o0 o fr tw (w.drewN n) s := h.below (below_drewN br _)
theorem Wk.tick (h : Wk bp bh hc cp k vm vo ty o0 o fr tw w s) (n : Nat) : Wk bp bh hc cp k vm vo ty o0 o fr tw (w.setCell ⟨bp, 3, none⟩ (.int .i64 n)) { s with steps := n } := by
  have b1 := h.b1
  have b2 := h.b2
  have hbk : ∀ j, j ≠ bp → (w.setCell ⟨bp, 3, none⟩ (.int .i64 n)).heap[j]? = w.heap[j]? := fun j hj => Below.heap_setCell _ _ _ _ (by show j ≠ bp; exact hj)
  have hc : ∀ j, j ≠ 3 → (w.setCell ⟨bp, 3, none⟩ (.int .i64 n)).cell? ⟨bp, j, none⟩ = w.cell? ⟨bp, j, none⟩ := fun j hj => World.cell?_setCell_other _ _ _ _ zF
  refine ⟨h.core.move (h' := s.hart k) (hbk cp om) (fun g hg => hbk g (by have := h.mlt g hg; omega)) (fun g hg _ => hbk g om) zH (h.core.hart.set_other (by show bp ≠ bh; omega) _) (fun o => (World.frozen?_setCell _ _ _ _).trans (h.core.hfz o)), h.b1, h.b2, (hc 0 om).trans h.c0, (hc 1 om).trans h.c1, (hc 2 om).trans h.c2, World.cell?_setCell_same _ _ _ h.c3, fun o => (World.frozen?_setCell _ _ _ _).trans (h.frz o), h.harts.set_other (by show bp ≠ bh; omega) _, h.mlt, owns_block h.own (fun g hg => hbk g (by have := h.own.lt g hg; omega)), h.vlt, h.kl, h.hcap⟩
theorem Wk.go {d : CoreD} (h : Wk bp bh hc cp k vm vo ty o0 o fr tw w s) (wf : s.Wf) (hd : d.h.Wf) (hc' : CoreAt cp bh (k * 37) vm ty w' d) (hg : Cgo cp bh (k * 37) vm ty w w') :
    Wk bp bh hc cp k vm vo ty o0 d.out d.fr d.tw w' ⟨s.harts.set k d.h, d.m, s.out, s.steps⟩ := by
  have b1 := h.b1
  have b2 := h.b2
  have hl := h.clt
  have e := hg.block bp om om (fun e => by have := h.mlt _ e; omega) (.inl h.b2)
  have ek : (⟨s.harts.set k d.h, d.m, s.out, s.steps⟩ : St).hart k = d.h := by
    rw [St.hart_at (by show k < (s.harts.set k d.h).length; rw [List.length_set]; exact h.kl)]
    show (s.harts.set k d.h)[k]'_ = _
    rw [List.getElem_set, if_pos rfl]
  refine ⟨by rw [ek]; exact hc', h.b1, h.b2, (cell_block e _).trans h.c0, (cell_block e _).trans (by rw [h.c1]; simp), (cell_block e _).trans h.c2, (cell_block e _).trans h.c3, fun o => (frozen_block e o).trans (h.frz o),
    at_harts_set h.harts (fun x hx => hlist_length (wf.harts x hx)) (hlist_length hd) hc'.hart hg.cell, h.mlt, owns_block h.own (fun g hg' => ?_), h.vlt, by show k < (s.harts.set k d.h).length; rw [List.length_set]; exact h.kl, by show (s.harts.set k d.h).length ≤ _ ∧ _; rw [List.length_set]; exact h.hcap⟩
  have := h.own.lt g hg'
  exact hg.block g this.2 om (fun e => by have := h.mlt _ e; omega) (.inl (h.vlt g hg'))
theorem Wk.lost {hs : List Hart} (h : Wk bp bh hc cp k vm vo ty o0 o fr tw w s) (wf : ∀ h ∈ hs, h.Wf) (hl : hs.length = s.harts.length) (hk : ∀ h' : k < hs.length, hs[k] = s.hart k) (ha : At w' bh 0 (hs.flatMap hlist)) (hg : Chg (fun p => p.block = bh) w w') :
    Wk bp bh hc cp k vm vo ty o0 o fr tw w' { s with harts := hs } := by
  have b1 := h.b1
  have b2 := h.b2
  have hlt := h.clt
  have kl : k < hs.length := by rw [hl]; exact h.kl
  have hbk : ∀ j, j < w.heap.size → j ≠ bh → w'.heap[j]? = w.heap[j]? := fun j hj hn => hg.block j hj (fun o e => hn e)
  have e := hbk bp om om
  have ek : (⟨hs, s.mem, s.out, s.steps⟩ : St).hart k = s.hart k := (St.hart_at kl).trans (hk kl)
  have hat := at_hart ha (fun x hx => hlist_length (wf x hx)) kl
  rw [hk kl] at hat
  refine ⟨by
      show CoreAt cp bh (k * 37) vm ty w' ⟨(⟨hs, s.mem, s.out, s.steps⟩ : St).hart k, s.mem, o, fr, tw⟩
      rw [ek]
      exact h.core.move (h' := s.hart k) (hbk cp hlt om) (fun g hg => hbk g (by have := h.mlt g hg; omega) (h.mlt g hg).2) (fun g hg hg2 => hbk g hg2 om) hg.size hat (fun o => (hg.frozen ⟨bh, o, none⟩ (by show bh < _; omega)).trans (h.core.hfz o)), h.b1, h.b2, (cell_block e _).trans h.c0, (cell_block e _).trans (by rw [h.c1, ← hl]), (cell_block e _).trans h.c2, (cell_block e _).trans h.c3, fun o => (frozen_block e o).trans (h.frz o),
    ha, h.mlt, owns_block h.own (fun g hg' => ?_), h.vlt, kl, by rw [show ({ s with harts := hs } : St).harts.length = s.harts.length from hl]; exact h.hcap⟩
  have := h.own.lt g hg'
  exact hbk g this.2 om
theorem Wk.stop {v' : Value} {w1 : World} (h : Wk bp bh hc cp k vm vo ty o0 o fr tw w s) (hown : w1.ownsRow (bp + 1) ty 1 v' (o0.length + o.length) (o0.map (Value.int .u32) ++ o.map (Value.int .u32))) (hg : w.grownBy w1 vo.ownBlock) :
    Bd bp bh hc vm v' ty (w1.setCell ⟨bp, 2, none⟩ v') { s with out := o0 ++ o } := by
  have b1 := h.b1
  have b2 := h.b2
  have hlt := h.clt
  have hfar : ∀ j, j < w.heap.size → j ≤ bp → w1.heap[j]? = w.heap[j]? := fun j hj hn => hg.block j hj (fun e => by have := h.own.lt j e.symm; omega)
  have hbk : ∀ j, j < bp → (w1.setCell ⟨bp, 2, none⟩ v').heap[j]? = w.heap[j]? := fun j hj => (Below.heap_setCell _ _ _ _ (by show j ≠ bp; omega)).trans (hfar j om om)
  have e := hfar bp om (Nat.le_refl _)
  have hc : ∀ j, j ≠ 2 → (w1.setCell ⟨bp, 2, none⟩ v').cell? ⟨bp, j, none⟩ = w.cell? ⟨bp, j, none⟩ := fun j hj => (World.cell?_setCell_other _ _ _ _ zF).trans (cell_block e _)
  have hs := hg.size
  refine ⟨h.b1, (hc 0 om).trans h.c0, (hc 1 om).trans h.c1, World.cell?_setCell_same _ _ _ ((cell_block e 2).trans h.c2), (hc 3 om).trans h.c3, fun o => (World.frozen?_setCell _ _ _ _).trans ((frozen_block e o).trans (h.frz o)), fun j hj => (cell_block (hbk bh b1) _).trans (h.harts j hj), by simp; omega, fun o => (frozen_block (hbk bh b1) o).trans (h.core.hfz o), sl_block h.core.bytes (fun g hg' => hbk g (h.mlt g hg').1), fun b off n c e => ?_, h.mlt, ?_, h.hcap⟩
  · have hb := (h.mlt b zX).1
    exact ⟨by simp; omega, fun o => (frozen_block (hbk b hb) o).trans ((h.core.mfz b off n c e).2.2.2 o)⟩
  · have := ownsRow_setCell_below hown (a := ⟨bp, 2, none⟩) (Nat.lt_succ_self bp) v'
    simpa using this
end
structure RdAt (rp : Nat) (w : World) (s : Rd) : Prop where
  v : ∃ v, w.cell? ⟨rp, 0, none⟩ = some v ∧ Ints .u8 w v s.1 ∧ (s.1 ≠ [] → ∀ k, v.ownBlock = some k → k < rp)
  bad : w.cell? ⟨rp, 1, none⟩ = some (.bool s.2)
  frz : ∀ o, w.frozen? ⟨rp, o, none⟩ = false
  lt : rp < w.heap.size
theorem RdAt.below {rp : Nat} {w w' : World} {s : Rd} (h : RdAt rp w s) (hb : Below w.heap.size w w') : RdAt rp w' s := by
  obtain ⟨v, h1, h2, h3⟩ := h.v
  have e := hb.block rp h.lt
  exact ⟨⟨v, (cell_block e _).trans h1, h2.below hb, h3⟩, (cell_block e _).trans h.bad, fun o => (frozen_block e o).trans (h.frz o), Nat.lt_of_lt_of_le h.lt hb.size⟩
theorem ints_set {k : IntKind} {w : World} {v : Value} {l : List Int} {rp : Nat} (h : Ints k w v l) (hn : l ≠ [] → ∀ k, v.ownBlock = some k → k < rp) {p : Addr} (hp : rp ≤ p.block) (u : Value) : Ints k (w.setCell p u) v l := by
  by_cases hl : l = []
  · subst hl
    obtain ⟨h1, ao, cap, h2, h3, h4, h5, h6⟩ := h
    exact ⟨h1, ao, cap, h2, h3, h4, h5, fun a _ hx => absurd rfl hx⟩
  · exact Sl.set_other h (fun b off n c e => by have := hn hl b zX; omega) u
theorem Ints.cut {k : IntKind} {w : World} {ao : Option Addr} {cap : Nat} {l : List Int} (h : Ints k w (.slice ao l.length cap) l) (n : Nat) (hn : n ≤ l.length) : Ints k w (.slice ao n cap) (l.take n) := by
  obtain ⟨h1, ao', cap', h2, h3, h4, h5, h6⟩ := h
  cases h2
  refine ⟨by simp, ao, cap, by rw [List.length_take, Nat.min_eq_left hn], by rw [List.length_take]; omega, h4, h5, fun a ha hx => ?_⟩
  have hne : l.map (Value.int k) ≠ [] := by intro e; rw [List.map_eq_nil_iff] at e; subst e; simp at hx
  obtain ⟨h7, h8⟩ := h6 a ha hne
  refine ⟨h7, fun j hj => ?_⟩
  rw [List.length_map, List.length_take] at hj
  rw [h8 j yA]
  simp
theorem Ints.rest {k : IntKind} {w : World} {b off cap : Nat} {l : List Int} (h : Ints k w (.slice (some ⟨b, off, none⟩) l.length cap) l) (n : Nat) (hn : n ≤ l.length) : Ints k w (.slice (some ⟨b, off + n, none⟩) (l.length - n) (cap - n)) (l.drop n) := by
  obtain ⟨h1, ao', cap', h2, h3, h4, h5, h6⟩ := h
  cases h2
  refine ⟨by simp, _, cap - n, by rw [List.length_drop], by rw [List.length_drop]; omega, by unfold maxLen at *; omega, (by intro e; cases e), fun a ha hx => ?_⟩
  cases ha
  have hne : l.map (Value.int k) ≠ [] := by intro e; rw [List.map_eq_nil_iff] at e; subst e; simp at hx
  obtain ⟨h7, h8⟩ := h6 _ rfl hne
  refine ⟨rfl, fun j hj => ?_⟩
  rw [List.length_map, List.length_drop] at hj
  have := h8 (n + j) yA
  rw [show off + n + j = off + (n + j) by omega]
  rw [this]
  simp
structure DidD where
  h : Hart
  vm : Value
  vo : Value
  fr : Int
  many : Int
def dtail (d : DidD) : List Value := [d.vm, d.vo, .int .u32 d.fr, .int .i64 d.many]
def dlist (d : DidD) : List Value := hlist d.h ++ dtail d
def dcells (d : DidD) : Array Value := (dlist d).toArray
def DidD.set (d : DidD) (r x : Int) : DidD := { d with h := d.h.setReg r x }
def DidD.trap (d : DidD) (c : Int) : DidD := { d with h := d.h.trap c }
def did0 : DidD := ⟨hart0, .slice none 0 0, .slice none 0 0, 0, 0⟩
structure DidD.Ok (d : DidD) : Prop where
  len : d.h.regs.length = 32
  m1 : d.vm.oneCell' = true
  o1 : d.vo.oneCell' = true
theorem hlist_len {h : Hart} (wf : h.regs.length = 32) : (hlist h).length = 37 := by simp [hlist, wf]
theorem dlist_len {d : DidD} (h : d.Ok) : (dlist d).length = 41 := by
  rw [dlist, List.length_append, hlist_len h.len]; rfl
theorem dcells_size {d : DidD} (h : d.Ok) : (dcells d).size = 41 := by simp [dcells, dlist_len h]
theorem dlist_one {d : DidD} (h : d.Ok) : ∀ v ∈ (dcells d).toList, v.oneCell' = true := by
  intro v hv
  have hv' : v ∈ dlist d := by simpa [dcells] using hv
  rcases List.mem_append.1 hv' with h1 | h1
  · exact hlist_one d.h v (by simpa [hcells] using h1)
  · simp only [dtail, List.mem_cons, List.not_mem_nil, or_false] at h1
    rcases h1 with rfl | rfl | rfl | rfl
    · exact h.m1
    · exact h.o1
    · rfl
    · rfl
theorem dlist_all {d : DidD} (h : d.Ok) : (dcells d).all (·.oneCell') = true := Array.all_eq_true_iff_forall_mem.2 (fun v hv => dlist_one h v (by simpa using hv))
theorem dlist_h {d : DidD} {j : Nat} {v : Value} (h : (hlist d.h)[j]? = some v) : (dlist d)[j]? = some v := by
  rw [dlist, List.getElem?_append_left (List.getElem?_eq_some_iff.1 h).1]; exact h
theorem dlist_t {d : DidD} (h : d.h.regs.length = 32) (j : Nat) : (dlist d)[37 + j]? = (dtail d)[j]? := by
  rw [dlist, List.getElem?_append_right (by rw [hlist_len h]; omega), hlist_len h, Nat.add_sub_cancel_left]
theorem dlist_setH {d : DidD} {h' : Hart} {j : Nat} {v : Value} (hl : hlist h' = (hlist d.h).set j v) (hj : j < (hlist d.h).length) : dlist { d with h := h' } = (dlist d).set j v := by
  unfold dlist
  rw [List.set_append_left _ _ hj]
  show hlist h' ++ dtail d = _
  rw [hl]
theorem dlist_setT {d d' : DidD} (hh : d'.h = d.h) (h : d.h.regs.length = 32) {j : Nat} {v : Value} (ht : dtail d' = (dtail d).set j v) : dlist d' = (dlist d).set (37 + j) v := by
  unfold dlist
  rw [List.set_append_right _ _ (by rw [hlist_len h]; omega), hlist_len h, Nat.add_sub_cancel_left, hh, ht]
theorem box_did (d : DidD) (w : World) (t : TypeId) : At (w.alloc (.cells (dcells d) t)) w.heap.size 0 (dlist d) := at_alloc w (dlist d) t (0, 0)
theorem results_c1 {P : Program} {fn : Func} {a : Tmp} {t : TypeId} (h : fn.results = #[.cell a t]) (tmps : Array Value) {p : Addr} {w : World} {v : Value} (hp : tmps.getD a undef = .pointer (some p)) (hl : (loadVar t p).run P w = .ok v w) :
    (results fn tmps).run P w = .ok v w := by
  have hp' : tmps[a]?.getD undef = .pointer (some p) := by rw [← hp]; simp
  simp [results, h, hp', hl, Sem.run_bind, asAddr]
theorem results_c1t {P : Program} {fn : Func} {a x : Tmp} {t : TypeId} (h : fn.results = #[.cell a t, .tmp x]) (tmps : Array Value) {p : Addr} {w : World} {v : Value} (hp : tmps.getD a undef = .pointer (some p)) (hl : (loadVar t p).run P w = .ok v w) :
    (results fn tmps).run P w = .ok (.tuple #[v, tmps.getD x undef]) w := by
  have hp' : tmps[a]?.getD undef = .pointer (some p) := by rw [← hp]; simp
  simp [results, h, hp', hl, Sem.run_bind, asAddr]
theorem did0_ok : did0.Ok := ⟨rfl, rfl, rfl⟩
structure DBox (B R : Nat) (tD : TypeId) (w : World) (d : DidD) : Prop where
  at_ : At w B 0 (dlist d)
  frz : ∀ o, w.frozen? ⟨B, o, none⟩ = false
  there : w.there R 0 41
theorem DBox.begin {w : World} {tD : TypeId} {d : DidD} {z : Array Value} (hz : z.size = 41) : DBox w.heap.size (w.heap.size + 1) tD ((w.alloc (.cells (dcells d) tD)).alloc (.cells z tD)) d := by
  have hB : Below (w.heap.size + 1) (w.alloc (.cells (dcells d) tD)) ((w.alloc (.cells (dcells d) tD)).alloc (.cells z tD)) := Below.alloc br zH _
  refine ⟨(box_did d w tD).below (by have := hB; simpa using this), fun o => ?_, fun j hj => ?_⟩
  · rw [hB.frozen (p := ⟨w.heap.size, o, none⟩) zI]
    unfold World.frozen?; rw [heap_alloc_new]; simp
  · have hn : ((w.alloc (.cells (dcells d) tD)).alloc (.cells z tD)).heap[w.heap.size + 1]? = some (.cells z tD (0, 0)) := by
      have := heap_alloc_new (w.alloc (.cells (dcells d) tD)) (.cells z tD)
      simpa using this
    have hj2 : 0 + j < z.size := om
    exact ⟨by unfold World.cell?; rw [hn]; simp; omega, by unfold World.frozen?; rw [hn]; simp⟩
theorem DBox.below {B R : Nat} {tD : TypeId} {w w' : World} {d : DidD} (h : DBox B R tD w d) (hB0 : B < w.heap.size) (hB : R < w.heap.size) (hb : Below w.heap.size w w') : DBox B R tD w' d :=
  ⟨h.at_.below hb, fun o => (hb.frozen (p := ⟨B, o, none⟩) hB0).trans (h.frz o), fun j hj => ⟨by rw [hb.cell (p := ⟨R, 0 + j, none⟩) hB]; exact (h.there j hj).1, by rw [hb.frozen (p := ⟨R, 0 + j, none⟩) hB]; exact (h.there j hj).2⟩⟩
theorem there_setCell {w : World} {b o n : Nat} (h : w.there b o n) (p : Addr) (hp : p.spot = none) (v : Value) : (w.setCell p v).there b o n := by
  obtain ⟨b', o', s⟩ := p
  simp only at hp
  subst hp
  have := World.there_setCells h b' o' [v]
  simpa [World.setCells] using this
theorem DBox.set {B R : Nat} {tD : TypeId} {w : World} {d d' : DidD} (h : DBox B R tD w d) (j : Nat) (v : Value) (hj : j < (dlist d).length) (hl : dlist d' = (dlist d).set j v) : DBox B R tD (w.setCell ⟨B, j, none⟩ v) d' :=
  ⟨by rw [hl]; have := h.at_.set j hj v; simpa using this, fun o => (World.frozen?_setCell _ _ _ _).trans (h.frz o), there_setCell h.there _ rfl _⟩
theorem DBox.get {B R : Nat} {tD : TypeId} {w : World} {d : DidD} (h : DBox B R tD w d) {j : Nat} {v : Value} (hj : (dlist d)[j]? = some v) : w.cell? ⟨B, j, none⟩ = some v := by
  have := h.at_.get hj
  simpa using this
theorem DBox.drewN {B R : Nat} {tD : TypeId} {w : World} {d : DidD} (h : DBox B R tD w d) (n : Nat) : DBox B R tD (w.drewN n) d := ⟨h.at_, h.frz, h.there⟩
theorem DidD.Ok.setReg {d : DidD} (h : d.Ok) (r x : Int) : (d.set r x).Ok := ⟨by unfold DidD.set Hart.setReg; split <;> simp [h.len], h.m1, h.o1⟩
theorem hlist_pc' {h : Hart} (w : h.regs.length = 32) : (hlist h)[32]? = some (.int .u32 h.pc) := by simp [hlist, w]
theorem hlist_held' {h : Hart} (w : h.regs.length = 32) : (hlist h)[33]? = some (.bool h.held) := by simp [hlist, w]
theorem hlist_heldAt' {h : Hart} (w : h.regs.length = 32) : (hlist h)[34]? = some (.int .u32 h.heldAt) := by simp [hlist, w]
theorem hlist_state' {h : Hart} (w : h.regs.length = 32) : (hlist h)[35]? = some (.int .i64 h.state) := by simp [hlist, w]
theorem hlist_cause' {h : Hart} (w : h.regs.length = 32) : (hlist h)[36]? = some (.int .i64 h.cause) := by simp [hlist, w]
theorem DBox.put {B R : Nat} {tD : TypeId} {w : World} {d d' : DidD} (h : DBox B R tD w d) (hd : d.Ok) (hd' : d'.Ok) : DBox B R tD (w.setCells B 0 (dcells d').toList) d' := by
  have ht : w.there B 0 (dcells d').toList.length := by
    have : (dcells d').toList.length = 41 := by simp [dcells, dlist_len hd']
    rw [this]
    exact there_at h.at_ (dlist_len hd) h.frz
  refine ⟨?_, fun o => by rw [World.frozen?_setCells]; exact h.frz o, World.there_setCells h.there _ _ _⟩
  have hr := World.rangeAt_setCells_same w B 0 (dcells d').toList ht
  intro j hj
  have := hr j (dlist d')[j] (by simp [dcells, hj])
  exact this
theorem DBox.thereB {B R : Nat} {tD : TypeId} {w : World} {d d' : DidD} (h : DBox B R tD w d) (hd : d.Ok) (hd' : d'.Ok) : w.there B 0 (dcells d').size := by
  rw [dcells_size hd']; exact there_at h.at_ (dlist_len hd) h.frz
theorem DBox.other {B R : Nat} {tD : TypeId} {w : World} {d : DidD} (h : DBox B R tD w d) {p : Addr} (hp : p.block ≠ B) (hs : p.spot = none) (v : Value) : DBox B R tD (w.setCell p v) d :=
  ⟨h.at_.set_other hp v, fun o => (World.frozen?_setCell _ _ _ _).trans (h.frz o), there_setCell h.there _ hs _⟩
structure DidOf (w : World) (d : DidD) (c : CoreD) : Prop where
  h : d.h = c.h
  m : Ints .u8 w d.vm c.m
  o : Ints .u32 w d.vo c.out
  fr : d.fr = c.fr
  many : d.many = c.tw - c.fr
theorem DidOf.below {w w' : World} {d : DidD} {c : CoreD} (h : DidOf w d c) (hb : Below w.heap.size w w') : DidOf w' d c := ⟨h.h, h.m.below hb, h.o.below hb, h.fr, h.many⟩
theorem Ints.one {k : IntKind} {w : World} {v : Value} {l : List Int} (h : Ints k w v l) : v.oneCell' = true := by
  obtain ⟨ao, cap, rfl, _⟩ := h.open
  rfl
theorem DidOf.ok {w : World} {d : DidD} {c : CoreD} (h : DidOf w d c) (wf : c.Wf) : d.Ok := ⟨by rw [h.h]; exact wf.h.len, h.m.one, h.o.one⟩
theorem DidOf.set {w : World} {d : DidD} {c : CoreD} (h : DidOf w d c) (r x : Int) : DidOf w (d.set r x) (c.set r x) := ⟨by show d.h.setReg r x = c.h.setReg r x; rw [h.h], h.m, h.o, h.fr, h.many⟩
theorem DidOf.trap {w : World} {d : DidD} {c : CoreD} (h : DidOf w d c) (x : Int) : DidOf w (d.trap x) (c.trap x) := ⟨by show d.h.trap x = c.h.trap x; rw [h.h], h.m, h.o, h.fr, h.many⟩
theorem DidOf.setPc {w : World} {d : DidD} {c : CoreD} (h : DidOf w d c) (x : Int) : DidOf w { d with h := { d.h with pc := x } } (c.setPc x) := ⟨by show ({ d.h with pc := x } : Hart) = { c.h with pc := x }; rw [h.h], h.m, h.o, h.fr, h.many⟩
theorem DidOf.hold {w : World} {d : DidD} {c : CoreD} (h : DidOf w d c) (b : Bool) (x : Int) : DidOf w { d with h := { d.h with held := b, heldAt := x } } (c.hold b x) := ⟨by show ({ d.h with held := b, heldAt := x } : Hart) = { c.h with held := b, heldAt := x }; rw [h.h], h.m, h.o, h.fr, h.many⟩
theorem DidOf.put {w : World} {d : DidD} {c : CoreD} {v : Value} {op at_ x : Int} (h : DidOf w d c) (hq : mStoreOk c.m op at_ = true) (ha : U32 at_) (hl : c.m.length ≤ 4096) (hv : Ints .u8 w v (mStore c.m op at_ x)) :
    DidOf w { d with vm := v, fr := at_, many := msize op } (c.put op at_ x) := by
  have hs : 0 < msize op ∧ at_ + msize op ≤ c.m.length := by simp [mStoreOk, there] at hq; omega
  have ha1 := ha.1
  have e : c.put op at_ x = { c with m := mStore c.m op at_ x, fr := at_, tw := (at_ + msize op) % 4294967296 } := by unfold CoreD.put; rw [if_pos hq]
  rw [e]
  refine ⟨h.h, hv, h.o, rfl, ?_⟩
  show msize op = (at_ + msize op) % 4294967296 - at_
  omega
theorem fresh_ne {v : Value} {S R : Nat} (hf : ∀ q, v.ownBlock = some q → S ≤ q) (hR : R < S) : ∀ b off n c, v = .slice (some ⟨b, off, none⟩) n c → R ≠ b := fun b off n c e => by
  have := hf b zX
  omega
theorem DidOf.setCells {w : World} {d : DidD} {c : CoreD} (h : DidOf w d c) {R : Nat} (h1 : ∀ b off n c, d.vm = .slice (some ⟨b, off, none⟩) n c → R ≠ b) (h2 : ∀ b off n c, d.vo = .slice (some ⟨b, off, none⟩) n c → R ≠ b) (o : Nat) (vs : List Value) : DidOf (w.setCells R o vs) d c :=
  ⟨h.h, sl_setCells h1 _ _ _ h.m, sl_setCells h2 _ _ _ h.o, h.fr, h.many⟩
theorem put_hold (c : CoreD) (b : Bool) (x op at_ y : Int) : (c.hold b x).put op at_ y = (c.put op at_ y).hold b x := by
  unfold CoreD.put CoreD.hold
  dsimp only
  split <;> rfl
theorem store_load (l : List Int) (a : Int) : mStoreOk l 18 a = mLoadOk l 13 a := rfl
theorem DBox.begin2 {w : World} {tD : TypeId} {d : DidD} {z : Array Value} {o : Obj} (hz : z.size = 41) : DBox w.heap.size (w.heap.size + 2) tD (((w.alloc (.cells (dcells d) tD)).alloc o).alloc (.cells z tD)) d := by
  have hB : Below (w.heap.size + 1) (w.alloc (.cells (dcells d) tD)) (((w.alloc (.cells (dcells d) tD)).alloc o).alloc (.cells z tD)) := (Below.alloc br zH _).alloc zH _
  refine ⟨(box_did d w tD).below (by have := hB; simpa using this), fun o => ?_, fun j hj => ?_⟩
  · rw [hB.frozen (p := ⟨w.heap.size, o, none⟩) zI]
    unfold World.frozen?; rw [heap_alloc_new]; simp
  · have hn : (((w.alloc (.cells (dcells d) tD)).alloc o).alloc (.cells z tD)).heap[w.heap.size + 2]? = some (.cells z tD (0, 0)) := by
      have := heap_alloc_new ((w.alloc (.cells (dcells d) tD)).alloc o) (.cells z tD)
      simpa using this
    exact ⟨by unfold World.cell?; rw [hn]; simp; omega, by unfold World.frozen?; rw [hn]; simp⟩
theorem size_setCells (b : Nat) : ∀ (vs : List Value) (o : Nat) (w : World), (w.setCells b o vs).heap.size = w.heap.size
  | [], _, _ => rfl
  | v :: r, o, w => by rw [World.setCells, size_setCells b r]; simp
theorem there_begin (h : Hart) {w : World} {tH tD : TypeId} : ((w.alloc (.cells (hcells h) tH)).alloc (.cells (dcells did0) tD)).there (w.heap.size + 1) 0 41 := fun j hj => by
  have hn : ((w.alloc (.cells (hcells h) tH)).alloc (.cells (dcells did0) tD)).heap[w.heap.size + 1]? = some (.cells (dcells did0) tD (0, 0)) := by
    have := heap_alloc_new (w.alloc (.cells (hcells h) tH)) (.cells (dcells did0) tD)
    simpa using this
  have hz : (dcells did0).size = 41 := rfl
  exact ⟨by unfold World.cell?; rw [hn]; simp; omega, by unfold World.frozen?; rw [hn]; simp⟩
theorem DBox.begin3 {w : World} {tD : TypeId} {d : DidD} {R : Nat} (hR : w.there R 0 41) (hl : R < w.heap.size) : DBox w.heap.size R tD (w.alloc (.cells (dcells d) tD)) d := by
  refine ⟨box_did d w tD, fun o => ?_, World.there_alloc hR _⟩
  unfold World.frozen?; rw [heap_alloc_new]; simp
theorem ints_inj {k : IntKind} {w : World} {v : Value} {l m : List Int} (h : Ints k w v l) (h' : Ints k w v m) : l = m := by
  obtain ⟨ao, cap, rfl, _, _, _, ho⟩ := h.open
  obtain ⟨ao', cap', e, _, _, _, ho'⟩ := h'.open
  injection e with e1 e2 e3
  subst e1
  by_cases hl : l = []
  · rw [hl] at e2
    rw [hl]
    exact (List.eq_nil_of_length_eq_zero (by simpa using e2.symm)).symm
  · have hm : m ≠ [] := by
      intro e; rw [e] at e2; exact hl (List.eq_nil_of_length_eq_zero (by simpa using e2))
    obtain ⟨b, off, rfl, _, hc⟩ := ho hl
    obtain ⟨b', off', e4, _, hc'⟩ := ho' hm
    injection e4 with e4
    injection e4 with e5 e6
    subst e5 e6
    apply List.ext_getElem e2
    intro i h1 h2
    have x1 := hc i h1
    have x2 := hc' i h2
    rw [x1] at x2
    injection x2 with x2
    injection x2 with _ x2
    rw [List.getD, List.getD, List.getElem?_eq_getElem h1, List.getElem?_eq_getElem h2] at x2
    exact x2
theorem ints_old {k : IntKind} {w w' wf : World} {v : Value} {l m : List Int} (h : Ints k w v l) (h' : Ints k w' v m) (hb : Below w.heap.size w w') (hf : Below w.heap.size w wf) : Ints k wf v m := by
  have := ints_inj (h.below hb) h'
  subst this
  exact h.below hf
structure HB (B R : Nat) (w : World) (h : Hart) : Prop where
  at_ : At w B 0 (hlist h)
  frz : ∀ o, w.frozen? ⟨B, o, none⟩ = false
  there : w.there R 0 37
  len : h.regs.length = 32
theorem HB.lt {B R : Nat} {w : World} {h : Hart} (k : HB B R w h) : B < w.heap.size := by
  have := k.at_ 0 (by rw [hlist_len k.len]; omega)
  exact lt_of_cell this
theorem HB.rlt {B R : Nat} {w : World} {h : Hart} (k : HB B R w h) : R < w.heap.size := by
  have := (k.there 0 om).1
  cases e : w.cell? ⟨R, 0 + 0, none⟩ with
  | none => rw [e] at this; cases this
  | some v => exact lt_of_cell e
theorem HB.set {B R : Nat} {w : World} {h h' : Hart} (k : HB B R w h) (j : Nat) (v : Value) (hj : j < 37) (hl : hlist h' = (hlist h).set j v) (hl2 : h'.regs.length = 32) : HB B R (w.setCell ⟨B, j, none⟩ v) h' :=
  ⟨by rw [hl]; have := k.at_.set j (by rw [hlist_len k.len]; exact hj) v; simpa using this, fun o => (World.frozen?_setCell _ _ _ _).trans (k.frz o), there_setCell k.there _ rfl _, hl2⟩
theorem HB.get {B R : Nat} {w : World} {h : Hart} (k : HB B R w h) {j : Nat} {v : Value} (hj : (hlist h)[j]? = some v) : w.cell? ⟨B, j, none⟩ = some v := by
  have := k.at_.get hj
  simpa using this
theorem there_block {w w' : World} {R n : Nat} (h : w.there R 0 n) (e : w'.heap[R]? = w.heap[R]?) : w'.there R 0 n := fun j hj => ⟨by rw [cell_block e]; exact (h j hj).1, by rw [frozen_block e]; exact (h j hj).2⟩
theorem HB.move {B R : Nat} {w w' : World} {h : Hart} (k : HB B R w h) (e1 : w'.heap[B]? = w.heap[B]?) (e2 : w'.heap[R]? = w.heap[R]?) : HB B R w' h :=
  ⟨fun j hj => (cell_block e1 _).trans (k.at_ j hj), fun o => (frozen_block e1 o).trans (k.frz o), there_block k.there e2, k.len⟩
theorem HB.begin (w : World) (t : TypeId) : HB (w.heap.size + 1) w.heap.size ((w.alloc (.cells (hcells hart0) t)).alloc (.cells (hcells hart0) t)) hart0 := by
  have hb : Below (w.heap.size + 1) (w.alloc (.cells (hcells hart0) t)) ((w.alloc (.cells (hcells hart0) t)).alloc (.cells (hcells hart0) t)) := Below.alloc br zH _
  have hz : (hcells hart0).size = 37 := rfl
  refine ⟨?_, fun o => ?_, fun j hj => ?_, rfl⟩
  · have := at_alloc (w.alloc (.cells (hcells hart0) t)) (hlist hart0) t (0, 0)
    rw [World.size_alloc] at this
    exact this
  · have := heap_alloc_new (w.alloc (.cells (hcells hart0) t)) (.cells (hcells hart0) t)
    have h2 : (w.alloc (.cells (hcells hart0) t)).heap.size = w.heap.size + 1 := by simp
    rw [h2] at this
    unfold World.frozen?
    rw [this]; simp
  · have e := hb.block w.heap.size om
    rw [heap_alloc_new] at e
    have hj2 : 0 + j < (hcells hart0).size := om
    exact ⟨by unfold World.cell?; rw [e]; simp; omega, by unfold World.frozen?; rw [e]; simp⟩
theorem RdAt.other {rp : Nat} {w : World} {s : Rd} (h : RdAt rp w s) {p : Addr} (hp : rp < p.block) (u : Value) : RdAt rp (w.setCell p u) s := by
  obtain ⟨v, h1, h2, h3⟩ := h.v
  have hne : ∀ o, (w.setCell p u).cell? ⟨rp, o, none⟩ = w.cell? ⟨rp, o, none⟩ := fun o => World.cell?_setCell_other _ _ _ _ (by intro e; rw [e] at hp; exact absurd hp (Nat.lt_irrefl _))
  exact ⟨⟨v, (hne _).trans h1, ints_set h2 h3 (Nat.le_of_lt hp) u, h3⟩, (hne _).trans h.bad, fun o => (World.frozen?_setCell _ _ _ _).trans (h.frz o), by simpa using h.lt⟩
theorem owns_mono {B B' : Nat} {e : TypeId} {k : Nat} {v : Value} {n : Nat} {xs : List Value} {w : World} (h : w.ownsRow B e k v n xs) (hb : B' ≤ B) : w.ownsRow B' e k v n xs := by
  obtain ⟨h1, h2⟩ := h
  refine ⟨h1, ?_⟩
  rcases h2 with ⟨rfl, rfl⟩ | ⟨g, cap, cur, rfl, hB, hh, h3⟩
  · exact .inl ⟨rfl, rfl⟩
  · exact .inr ⟨g, cap, cur, rfl, Nat.le_trans hb hB, hh, h3⟩
theorem owns_apart {B B' : Nat} {e e' : TypeId} {k k' : Nat} {v v' : Value} {n n' : Nat} {xs xs' : List Value} {w : World} (h : w.ownsRow B e k v n xs) (h' : w.ownsRow B' e' k' v' n' xs') (hne : e ≠ e') : ∀ g, v.ownBlock = some g → v'.ownBlock ≠ some g := by
  intro g h1 h2
  rcases h.2 with ⟨rfl, _⟩ | ⟨g1, _, c1, rfl, _, e1, _⟩
  · cases h1
  rcases h'.2 with ⟨rfl, _⟩ | ⟨g2, _, c2, rfl, _, e2, _⟩
  · cases h2
  cases h1; cases h2
  rw [e1] at e2
  cases e2
  exact hne rfl
structure MB (mp : Nat) (t8 tH : TypeId) (vm vh : Value) (w : World) (mem : List Int) (hs : List Hart) : Prop where
  c0 : w.cell? ⟨mp, 0, none⟩ = some vm
  c1 : w.cell? ⟨mp, 1, none⟩ = some vh
  frz : ∀ o, w.frozen? ⟨mp, o, none⟩ = false
  own0 : w.ownsRow (mp + 1) t8 1 vm mem.length (mem.map (Value.int .u8))
  own1 : w.ownsRow (mp + 1) tH 37 vh hs.length (hs.flatMap hlist)
section
variable {mp : Nat} {t8 tH : TypeId} {vm vh : Value} {w w' : World} {mem : List Int} {hs : List Hart}
theorem MB.lt (h : MB mp t8 tH vm vh w mem hs) : mp < w.heap.size := lt_of_cell h.c0
theorem MB.move (h : MB mp t8 tH vm vh w mem hs) (hb : ∀ g, mp ≤ g → g < w.heap.size → w'.heap[g]? = w.heap[g]?) : MB mp t8 tH vm vh w' mem hs := by
  have e := hb mp (Nat.le_refl _) h.lt
  exact ⟨(cell_block e _).trans h.c0, (cell_block e _).trans h.c1, fun o => (frozen_block e o).trans (h.frz o), owns_block h.own0 (fun g hg => by have := h.own0.lt g hg; exact hb g om this.2), owns_block h.own1 (fun g hg => by have := h.own1.lt g hg; exact hb g om this.2)⟩
theorem MB.at (h : MB mp t8 tH vm vh w mem hs) : MachAt w vm vh ⟨mem, hs⟩ := ⟨owns_sl h.own0, owns_sl h.own1⟩
theorem MB.next {v' : Value} {x : Hart} (h : MB mp t8 tH vm vh w mem hs) (hne : t8 ≠ tH) (hown : w'.ownsRow (mp + 1) tH 37 v' (hs.length + 1) (hs.flatMap hlist ++ hlist x)) (hg : w.grownBy w' vh.ownBlock) : MB mp t8 tH vm v' (w'.setCell ⟨mp, 1, none⟩ v') mem (hs ++ [x]) := by
  have hfar : ∀ j, j < w.heap.size → vh.ownBlock ≠ some j → w'.heap[j]? = w.heap[j]? := fun j hj hn => hg.block j hj (fun e => hn e.symm)
  have e := hfar mp h.lt (fun e => by have := h.own1.lt _ e; omega)
  refine ⟨(World.cell?_setCell_other _ _ _ _ zF).trans ((cell_block e _).trans h.c0), World.cell?_setCell_same _ _ _ ((cell_block e _).trans h.c1), fun o => (World.frozen?_setCell _ _ _ _).trans ((frozen_block e o).trans (h.frz o)), ?_, ?_⟩
  · refine owns_block h.own0 (fun g hg' => ?_)
    have h1 := h.own0.lt g hg'
    exact (Below.heap_setCell _ _ _ _ (by show g ≠ mp; omega)).trans (hfar g h1.2 (owns_apart h.own0 h.own1 hne g hg'))
  · have := ownsRow_setCell_below hown (a := ⟨mp, 1, none⟩) (Nat.lt_succ_self mp) v'
    simpa using this
end
theorem RdAt.far {rp B : Nat} {w w' : World} {s : Rd} (h : RdAt rp w s) (hb : Below B w w') (hlt : rp < B) : RdAt rp w' s := by
  obtain ⟨v, h1, h2, h3⟩ := h.v
  have e := hb.block rp hlt
  refine ⟨⟨v, (cell_block e _).trans h1, ?_, h3⟩, (cell_block e _).trans h.bad, fun o => (frozen_block e o).trans (h.frz o), Nat.lt_of_lt_of_le h.lt hb.size⟩
  obtain ⟨k1, ao, cap, k2, k3, k4, k5, k6⟩ := h2
  refine ⟨k1, ao, cap, k2, k3, k4, k5, fun a ha hx => ⟨(k6 a ha hx).1, fun j hj => ?_⟩⟩
  have hne : s.1 ≠ [] := fun e => hx zX
  have hbl := h3 hne a.block (by rw [k2, ha]; rfl)
  exact (cell_block (hb.block a.block om) _).trans ((k6 a ha hx).2 j hj)
def Rng (d : CoreD) : Prop := (d.fr = 0 ∧ d.tw = 0) ∨ (0 ≤ d.fr ∧ d.fr < d.tw ∧ d.tw ≤ d.m.length)
theorem Rng.put {d : CoreD} (h : Rng d) (hl : d.m.length ≤ 4096) (op a x : Int) (ha : 0 ≤ a) : Rng (d.put op a x) := by
  unfold CoreD.put
  split
  · rename_i hq
    have hs : 0 < msize op ∧ a + msize op ≤ d.m.length := by simp [mStoreOk, there] at hq; omega
    refine .inr ⟨ha, ?_, ?_⟩
    · show a < (a + msize op) % 4294967296
      omega
    · show (a + msize op) % 4294967296 ≤ ((mStore d.m op a x).length : Int)
      rw [mStore_length]
      omega
  · exact h
theorem ite_rng {P : CoreD → Prop} {c : Prop} [Decidable c] {a b : CoreD} (h1 : c → P a) (h2 : ¬ c → P b) : P (if c then a else b) := by split; exact h1 ‹_›; exact h2 ‹_›
theorem atomS_rng {d : CoreD} (h : Rng d) (hl : d.m.length ≤ 4096) (op a b : Int) (ha : 0 ≤ a) : Rng (atomS d op a b).1 := by
  unfold atomS
  split
  · split
    · exact h
    · split
      · split
        · exact h.put hl 18 a b ha
        · exact h
      · exact h.put hl 18 a _ ha
  · exact h
theorem callS_rng {d : CoreD} (h : Rng d) : Rng (callS d).1 := by
  unfold callS
  split
  · exact h
  · split
    · exact h
    · exact h
theorem doS_rng {d : CoreD} (h : Rng d) (hl : d.m.length ≤ 4096) (hr : ∀ k, 0 ≤ d.h.reg k) (i : InsD) : Rng (doS i d) := by
  unfold doS
  dsimp only
  repeat' (with_reducible refine ite_rng (P := Rng) (fun _ => ?_) (fun _ => ?_))
  all_goals first
    | exact h
    | exact h.put hl _ _ _ (Int.emod_nonneg _ zN)
    | exact atomS_rng h hl i.op (d.h.reg i.rs1) (d.h.reg i.rs2) (hr _)
    | exact callS_rng h
theorem goS_rng (h : Hart) (wf : h.Wf) (l : List Int) (hl : l.length ≤ 4096) : Rng (goS ⟨h, l, [], 0, 0⟩) := by
  have h0 : Rng (CoreD.none ⟨h, l, [], 0, 0⟩) := .inl ⟨rfl, rfl⟩
  unfold goS
  split
  · exact doS_rng h0 hl (fun k => (reg_u wf k).1) _
  · exact h0
def nearB (word fr many : Int) : Bool := decide (0 < many) && decide (fr < word + 4) && decide (word < fr + many)
theorem nearB_lose {d : CoreD} (h : Rng d) (hl : d.m.length ≤ 4096) (x : Hart) (wf : x.Wf) : lose d.fr d.tw x = if (x.held && nearB x.heldAt d.fr (d.tw - d.fr)) = true then { x with held := false, heldAt := 0 } else x := by
  have hu := wf.heldAt
  unfold U32 at hu
  unfold lose
  have e : (decide (d.fr < (x.heldAt + 4) % 4294967296) && decide (x.heldAt < d.tw)) = nearB x.heldAt d.fr (d.tw - d.fr) := by
    unfold nearB
    rw [← Bool.decide_and, ← Bool.decide_and, ← Bool.decide_and]
    refine decide_eq_decide.2 ?_
    rcases h with ⟨h1, h2⟩ | ⟨h1, h2, h3⟩
    · constructor <;> rintro ⟨⟩ <;> omega
    · constructor
      · rintro ⟨a, b⟩; omega
      · rintro ⟨⟨a, b⟩, c⟩; omega
  rw [Bool.and_assoc, e]
theorem near_all {word fr many : Int} (h : ∀ j : Int, 0 ≤ j → j < many → ¬ (0 ≤ fr + j - word ∧ fr + j - word < 4)) : nearB word fr many = false := by
  unfold nearB
  rw [← Bool.decide_and, ← Bool.decide_and]
  refine decide_eq_false ?_
  rintro ⟨⟨a, b⟩, c⟩
  by_cases e : fr ≤ word
  · exact h (word - fr) om om om
  · exact h 0 om om om
theorem near_one {word fr many j : Int} (h0 : 0 ≤ j) (h1 : j < many) (h2 : 0 ≤ fr + j - word) (h3 : fr + j - word < 4) : nearB word fr many = true := by
  unfold nearB
  rw [← Bool.decide_and, ← Bool.decide_and]
  refine decide_eq_true ⟨⟨?_, ?_⟩, ?_⟩ <;> omega
structure PB (bp bh hc : Nat) (vm vo : Value) (ty : TypeId) (w : World) (s : St) : Prop where
  b1 : bp < bh
  c0 : w.cell? ⟨bp, 0, none⟩ = some vm
  c1 : w.cell? ⟨bp, 1, none⟩ = some (.slice (some ⟨bh, 0, none⟩) s.harts.length hc)
  c2 : w.cell? ⟨bp, 2, none⟩ = some vo
  c3 : w.cell? ⟨bp, 3, none⟩ = some (.int .i64 s.steps)
  frz : ∀ o, w.frozen? ⟨bp, o, none⟩ = false
  harts : At w bh 0 (s.harts.flatMap hlist)
  hlt : bh < w.heap.size
  hfz : ∀ o, w.frozen? ⟨bh, o, none⟩ = false
  bytes : Ints .u8 w vm s.mem
  mlt : s.mem ≠ [] → ∀ k, vm.ownBlock = some k → bp < k ∧ k ≠ bh ∧ vo.ownBlock ≠ some k
  own : w.ownsRow (bh + 1) ty 1 vo s.out.length (s.out.map (Value.int .u32))
  hcap : s.harts.length ≤ hc ∧ hc ≤ maxLen
theorem ints_lt {k : IntKind} {w : World} {v : Value} {l : List Int} (h : Ints k w v l) (hl : l ≠ []) {g : Nat} (e : v.ownBlock = some g) : g < w.heap.size := by
  obtain ⟨ao, cap, rfl, _, _, _, ho⟩ := h.open
  obtain ⟨b, off, rfl, _, hx⟩ := ho hl
  cases e
  exact lt_of_cell (hx 0 (List.length_pos_iff.2 hl))
theorem ints_move {k : IntKind} {w w' : World} {v : Value} {l : List Int} (h : Ints k w v l) (hb : l ≠ [] → ∀ g, v.ownBlock = some g → w'.heap[g]? = w.heap[g]?) : Ints k w' v l := by
  by_cases hl : l = []
  · subst hl
    obtain ⟨h1, ao, cap, h2, h3, h4, h5, h6⟩ := h
    exact ⟨h1, ao, cap, h2, h3, h4, h5, fun a ha hx => absurd rfl hx⟩
  · exact sl_block h (hb hl)
section
variable {bp bh hc k : Nat} {vm vo : Value} {ty : TypeId} {w w' : World} {s : St}
theorem PB.lt (h : PB bp bh hc vm vo ty w s) : bp < w.heap.size := lt_of_cell h.c0
theorem PB.below (h : PB bp bh hc vm vo ty w s) (hb : Below w.heap.size w w') : PB bp bh hc vm vo ty w' s := by
  have e := hb.block bp h.lt
  have eh := hb.block bh h.hlt
  exact ⟨h.b1, (cell_block e _).trans h.c0, (cell_block e _).trans h.c1, (cell_block e _).trans h.c2, (cell_block e _).trans h.c3, fun o => (frozen_block e o).trans (h.frz o), h.harts.below hb, Nat.lt_of_lt_of_le h.hlt hb.size, fun o => (frozen_block eh o).trans (h.hfz o), h.bytes.below hb, h.mlt, owns_below h.own hb, h.hcap⟩
theorem PB.tick (h : PB bp bh hc vm vo ty w s) (n : Nat) : PB bp bh hc vm vo ty (w.setCell ⟨bp, 3, none⟩ (.int .i64 n)) { s with steps := n } := by
  have b1 := h.b1
  have hbk : ∀ j, j ≠ bp → (w.setCell ⟨bp, 3, none⟩ (.int .i64 n)).heap[j]? = w.heap[j]? := fun j hj => Below.heap_setCell _ _ _ _ (by show j ≠ bp; exact hj)
  have hc : ∀ j, j ≠ 3 → (w.setCell ⟨bp, 3, none⟩ (.int .i64 n)).cell? ⟨bp, j, none⟩ = w.cell? ⟨bp, j, none⟩ := fun j hj => World.cell?_setCell_other _ _ _ _ zF
  exact ⟨h.b1, (hc 0 om).trans h.c0, (hc 1 om).trans h.c1, (hc 2 om).trans h.c2, World.cell?_setCell_same _ _ _ h.c3, fun o => (World.frozen?_setCell _ _ _ _).trans (h.frz o), h.harts.set_other (by show bp ≠ bh; omega) _, by have := h.hlt; simpa using this, fun o => (World.frozen?_setCell _ _ _ _).trans (h.hfz o), ints_move h.bytes (fun hm g hg => hbk g (by have := h.mlt hm g hg; omega)), h.mlt, owns_block h.own (fun g hg => hbk g (by have := h.own.lt g hg; omega)), h.hcap⟩
theorem PB.did {d : DidD} {c : CoreD} (h : PB bp bh hc vm vo ty w s) (wf : s.Wf) (wd : c.h.Wf) (hl : c.m.length = s.mem.length) (kl : k < s.harts.length) (hd : DidOf w d c) {S : Nat} (hS : bh < S) (hS2 : ∀ g, vo.ownBlock = some g → g < S)
    (hm : d.vm = vm ∨ ∀ q, d.vm.ownBlock = some q → S ≤ q) (ho : ∀ q, d.vo.ownBlock = some q → S ≤ q) :
    PB bp bh hc d.vm vo ty ((w.setCells bh (k * 37) (hlist d.h)).setCell ⟨bp, 0, none⟩ d.vm) ⟨s.harts.set k c.h, c.m, s.out, s.steps⟩ ∧
      Ints .u32 ((w.setCells bh (k * 37) (hlist d.h)).setCell ⟨bp, 0, none⟩ d.vm) d.vo c.out ∧ Below bp w ((w.setCells bh (k * 37) (hlist d.h)).setCell ⟨bp, 0, none⟩ d.vm) ∧
      (∀ g, g ≠ bp → g ≠ bh → ((w.setCells bh (k * 37) (hlist d.h)).setCell ⟨bp, 0, none⟩ d.vm).heap[g]? = w.heap[g]?) ∧ (w.setCells bh (k * 37) (hlist d.h)).there bh (k * 37) 37 := by
  have b1 := h.b1
  have hbk1 : ∀ j, j ≠ bh → (w.setCells bh (k * 37) (hlist d.h)).heap[j]? = w.heap[j]? := fun j hj => (by
    have : ∀ (vs : List Value) (o : Nat) (w : World), (w.setCells bh o vs).heap[j]? = w.heap[j]? := fun vs => by
      induction vs with
      | nil => intro _ _; rfl
      | cons v r ih => intro o w; rw [World.setCells, ih]; exact Below.heap_setCell _ _ _ _ (by show j ≠ bh; exact hj)
    exact this _ _ _)
  have hbk2 : ∀ j, j ≠ bp → ((w.setCells bh (k * 37) (hlist d.h)).setCell ⟨bp, 0, none⟩ d.vm).heap[j]? = (w.setCells bh (k * 37) (hlist d.h)).heap[j]? := fun j hj => Below.heap_setCell _ _ _ _ (by show j ≠ bp; exact hj)
  have hc0 : ∀ j, j ≠ 0 → ((w.setCells bh (k * 37) (hlist d.h)).setCell ⟨bp, 0, none⟩ d.vm).cell? ⟨bp, j, none⟩ = w.cell? ⟨bp, j, none⟩ := fun j hj => (World.cell?_setCell_other _ _ _ _ zF).trans (cell_block (hbk1 bp om) j)
  have hz : ((w.setCells bh (k * 37) (hlist d.h)).setCell ⟨bp, 0, none⟩ d.vm).heap.size = w.heap.size := by simp [size_setCells]
  have hof : ∀ b o, (w.setCells bh (k * 37) (hlist d.h)).frozen? ⟨b, o, none⟩ = w.frozen? ⟨b, o, none⟩ := fun b o => by rw [World.frozen?_setCells]
  have hll := hlist_length wd
  have hth : w.there bh (k * 37) 37 := by
    have hl37 := hlist_length (wf.harts _ (List.getElem_mem kl))
    exact there_at (at_hart h.harts (fun x hx => hlist_length (wf.harts x hx)) kl) hl37 h.hfz
  have hdl : (hlist d.h).length = 37 := by rw [hd.h]; exact hll
  have hsame : At (w.setCells bh (k * 37) (hlist d.h)) bh (k * 37) (hlist c.h) := by
    intro j hj
    have hr := World.rangeAt_setCells_same w bh (k * 37) (hlist d.h) (by rw [hdl]; exact hth)
    rw [← hd.h] at hj
    have := hr j (hlist d.h)[j] (by simp [hj])
    simp only [hd.h] at this ⊢
    exact this
  have hmb : c.m ≠ [] → ∀ g, d.vm.ownBlock = some g → bp < g ∧ g ≠ bh ∧ vo.ownBlock ≠ some g := fun hne g hg => by
    have hne' : s.mem ≠ [] := fun e => hne (List.eq_nil_of_length_eq_zero (by rw [hl, e]; rfl))
    rcases hm with e | e
    · rw [e] at hg; exact h.mlt hne' g hg
    · have := e g hg
      exact ⟨om, om, fun e2 => by have := hS2 g e2; omega⟩
  refine ⟨⟨h.b1, World.cell?_setCell_same _ _ _ ((cell_block (hbk1 bp om) 0).trans h.c0), (hc0 1 om).trans (by rw [h.c1]; simp), (hc0 2 om).trans h.c2, (hc0 3 om).trans h.c3, fun o => (World.frozen?_setCell _ _ _ _).trans ((hof bp o).trans (h.frz o)), ?_, by rw [hz]; exact h.hlt, fun o => (World.frozen?_setCell _ _ _ _).trans ((hof bh o).trans (h.hfz o)), ?_, hmb, ?_, by show (s.harts.set k c.h).length ≤ _ ∧ _; rw [List.length_set]; exact h.hcap⟩, ?_, ?_, fun g h1 h2 => (hbk2 g h1).trans (hbk1 g h2), World.there_setCells hth _ _ _⟩
  · refine At.set_other ?_ (by show bp ≠ bh; omega) _
    refine at_harts_set h.harts (fun x hx => hlist_length (wf.harts x hx)) hll hsame (fun o ho => ?_)
    exact World.cell?_setCells_out _ _ _ _ _ (fun _ hs => by rw [hdl]; exact ho)
  · exact ints_move hd.m (fun hne g hg => by have := hmb hne g hg; exact (hbk2 g om).trans (hbk1 g this.2.1))
  · exact owns_block h.own (fun g hg => by have := h.own.lt g hg; exact (hbk2 g om).trans (hbk1 g om))
  · exact ints_move hd.o (fun _ g hg => by have := ho g hg; exact (hbk2 g om).trans (hbk1 g om))
  · exact (below_setCells (B := bp) om _ _ _ (Below.refl bp w)).setCell (p := ⟨bp, 0, none⟩) (Nat.le_refl bp) _
theorem PB.out {v' : Value} {o : List Int} (h : PB bp bh hc vm vo ty w s) (hown : w'.ownsRow (bh + 1) ty 1 v' (s.out.length + o.length) (s.out.map (Value.int .u32) ++ o.map (Value.int .u32))) (hg : w.grownBy w' vo.ownBlock) (hf : ∀ k, v'.ownBlock = some k → vo.ownBlock = some k ∨ w.heap.size ≤ k) :
    PB bp bh hc vm v' ty (w'.setCell ⟨bp, 2, none⟩ v') { s with out := s.out ++ o } ∧ Below bp w (w'.setCell ⟨bp, 2, none⟩ v') ∧ (∀ g, g < w.heap.size → g ≠ bp → vo.ownBlock ≠ some g → (w'.setCell ⟨bp, 2, none⟩ v').heap[g]? = w.heap[g]?) := by
  have b1 := h.b1
  have hlt := h.lt
  have hh := h.hlt
  have hsz := hg.size
  have hfar : ∀ j, j < w.heap.size → vo.ownBlock ≠ some j → w'.heap[j]? = w.heap[j]? := fun j hj hn => hg.block j hj (fun e => hn e.symm)
  have hbk : ∀ j, j ≠ bp → (w'.setCell ⟨bp, 2, none⟩ v').heap[j]? = w'.heap[j]? := fun j hj => Below.heap_setCell _ _ _ _ (by show j ≠ bp; exact hj)
  have hno : ∀ j, j ≤ bh → vo.ownBlock ≠ some j := fun j hj e => by have := h.own.lt j e; omega
  have e := hfar bp hlt (hno bp om)
  have eh := (hbk bh om).trans (hfar bh hh (hno bh (Nat.le_refl _)))
  have hcc : ∀ j, j ≠ 2 → (w'.setCell ⟨bp, 2, none⟩ v').cell? ⟨bp, j, none⟩ = w.cell? ⟨bp, j, none⟩ := fun j hj => (World.cell?_setCell_other _ _ _ _ zF).trans (cell_block e j)
  refine ⟨⟨h.b1, (hcc 0 om).trans h.c0, (hcc 1 om).trans h.c1, World.cell?_setCell_same _ _ _ ((cell_block e 2).trans h.c2), (hcc 3 om).trans h.c3, fun o => (World.frozen?_setCell _ _ _ _).trans ((frozen_block e o).trans (h.frz o)), fun j hj => (cell_block eh _).trans (h.harts j hj), by simp; omega, fun o => (frozen_block eh o).trans (h.hfz o), ints_move h.bytes (fun hne g hg' => ?_), fun hne g hg' => ?_, ?_, h.hcap⟩, ?_, fun g h1 h2 h3 => (hbk g h2).trans (hfar g h1 h3)⟩
  · have := h.mlt hne g hg'
    exact (hbk g om).trans (hfar g (ints_lt h.bytes hne hg') this.2.2)
  · have := h.mlt hne g hg'
    refine ⟨this.1, this.2.1, fun e2 => ?_⟩
    have hl := ints_lt h.bytes hne hg'
    rcases hf g e2 with e3 | e3
    · exact this.2.2 e3
    · omega
  · have := ownsRow_setCell_below hown (a := ⟨bp, 2, none⟩) (by show bp < bh + 1; omega) v'
    simpa using this
  · exact ((Below.refl bp w).grown hg om (fun g e => by have := h.own.lt g e; omega)).setCell (p := ⟨bp, 2, none⟩) (Nat.le_refl _) _
theorem PB.lost {hs : List Hart} (h : PB bp bh hc vm vo ty w s) (hl : hs.length = s.harts.length) (ha : At w' bh 0 (hs.flatMap hlist)) (hg : Chg (fun p => p.block = bh) w w') :
    PB bp bh hc vm vo ty w' { s with harts := hs } := by
  have b1 := h.b1
  have hlt := h.lt
  have hh := h.hlt
  have hsz := hg.size
  have hbk : ∀ j, j < w.heap.size → j ≠ bh → w'.heap[j]? = w.heap[j]? := fun j hj hn => hg.block j hj (fun o e => hn e)
  have e := hbk bp hlt om
  exact ⟨h.b1, (cell_block e _).trans h.c0, (cell_block e _).trans (by rw [h.c1, ← hl]), (cell_block e _).trans h.c2, (cell_block e _).trans h.c3, fun o => (frozen_block e o).trans (h.frz o), ha, om, fun o => (hg.frozen ⟨bh, o, none⟩ hh).trans (h.hfz o), ints_move h.bytes (fun hne g hg' => hbk g (ints_lt h.bytes hne hg') (h.mlt hne g hg').2.1), h.mlt, owns_block h.own (fun g hg' => hbk g (h.own.lt g hg').2 (by have := h.own.lt g hg'; omega)), by rw [show ({ s with harts := hs } : St).harts.length = s.harts.length from hl]; exact h.hcap⟩
end
structure BlkD where
  pc : Int
  vi : Value
  ins : List InsD
def blist (x : BlkD) : List Value := [.int .u32 x.pc, x.vi]
structure BlkOk (w : World) (x : BlkD) : Prop where
  at_ : BlockAt w x.vi x.ins
  pc : U32 x.pc
theorem BlkOk.below {w w' : World} {x : BlkD} (h : BlkOk w x) (hb : Below w.heap.size w w') : BlkOk w' x := ⟨Sl.below h.at_ hb, h.pc⟩
def Blks (w : World) (v : Value) (l : List BlkD) : Prop := Sl w v 2 l.length (l.flatMap blist) ∧ ∀ x ∈ l, BlkOk w x
theorem Blks.below {w w' : World} {v : Value} {l : List BlkD} (h : Blks w v l) (hb : Below w.heap.size w w') : Blks w' v l := ⟨Sl.below h.1 hb, fun x hx => (h.2 x hx).below hb⟩
def placeN (l : List BlkD) (pc : Int) : Nat := l.findIdx (fun x => x.pc == pc)
def placeI (l : List BlkD) (pc : Int) : Int := if placeN l pc < l.length then (placeN l pc : Int) else -1
def BlkD.abs (x : BlkD) : Int × List InsD := (x.pc, x.ins)
structure Cp (B : Nat) (TB TI : TypeId) (w : World) (v : Value) (ys : List BlkD) : Prop where
  own : w.ownsRow B TB 2 v ys.length (ys.flatMap blist)
  pc : ∀ y ∈ ys, U32 y.pc
  row : ∀ y ∈ ys, w.ownsRow B TI 5 y.vi y.ins.length (y.ins.flatMap ilist)
section
variable {B : Nat} {TB TI : TypeId} {w w' : World} {v v' : Value} {ys : List BlkD} {y : BlkD}
theorem Cp.below (h : Cp B TB TI w v ys) (hb : Below w.heap.size w w') : Cp B TB TI w' v ys := ⟨owns_below h.own hb, h.pc, fun y hy => owns_below (h.row y hy) hb⟩
theorem Cp.mono (h : Cp B TB TI w v ys) {B' : Nat} (hb : B' ≤ B) : Cp B' TB TI w v ys := ⟨owns_mono h.own hb, h.pc, fun y hy => owns_mono (h.row y hy) hb⟩
theorem Cp.ok (h : Cp B TB TI w v ys) : ∀ y ∈ ys, BlkOk w y := fun y hy => ⟨owns_sl (h.row y hy), h.pc y hy⟩
theorem Cp.blks (h : Cp B TB TI w v ys) : Blks w v ys := ⟨owns_sl h.own, h.ok⟩
theorem Cp.set (h : Cp B TB TI w v ys) {p : Addr} (hp : p.block < B) (u : Value) : Cp B TB TI (w.setCell p u) v ys :=
  ⟨ownsRow_setCell_below h.own hp u, h.pc, fun y hy => ownsRow_setCell_below (h.row y hy) hp u⟩
theorem Cp.snoc (hne : TB ≠ TI) (h : Cp B TB TI w v ys) (hp : U32 y.pc) (hy : w.ownsRow B TI 5 y.vi y.ins.length (y.ins.flatMap ilist)) (hown : w'.ownsRow B TB 2 v' (ys.length + 1) (ys.flatMap blist ++ blist y)) (hg : w.grownBy w' v.ownBlock) : Cp B TB TI w' v' (ys ++ [y]) := by
  have key : ∀ z : BlkD, w.ownsRow B TI 5 z.vi z.ins.length (z.ins.flatMap ilist) → w'.ownsRow B TI 5 z.vi z.ins.length (z.ins.flatMap ilist) := fun z hz =>
    owns_block hz (fun g e => hg.block g (hz.lt g e).2 (fun e2 => owns_apart h.own hz hne g e2.symm e))
  refine ⟨by simpa using hown, fun z hz => ?_, fun z hz => ?_⟩
  · rcases List.mem_append.1 hz with hz | hz
    · exact h.pc z hz
    · rw [List.mem_singleton] at hz; rw [hz]; exact hp
  · rcases List.mem_append.1 hz with hz | hz
    · exact key z (h.row z hz)
    · rw [List.mem_singleton] at hz; rw [hz]; exact key y hy
end
def Far (B : Nat) (v : Value) (l : List BlkD) : Prop := (∀ q, v.ownBlock = some q → B ≤ q) ∧ ∀ x ∈ l, ∀ q, x.vi.ownBlock = some q → B ≤ q
theorem Cp.far {B : Nat} {TB TI : TypeId} {w : World} {v : Value} {ys : List BlkD} (h : Cp B TB TI w v ys) : Far B v ys := ⟨fun q e => (h.own.lt q e).1, fun x hx q e => ((h.row x hx).lt q e).1⟩
theorem Far.mono {B B' : Nat} {v : Value} {l : List BlkD} (h : Far B v l) (hb : B' ≤ B) : Far B' v l := ⟨fun q e => Nat.le_trans hb (h.1 q e), fun x hx q e => Nat.le_trans hb (h.2 x hx q e)⟩
theorem own_ty {w : World} {B : Nat} {e : TypeId} {k : Nat} {v : Value} {n : Nat} {xs : List Value} (h : w.ownsRow B e k v n xs) {g : Nat} (hg : v.ownBlock = some g) : ∃ cs f, w.heap[g]? = some (.cells cs e f) := by
  rcases h.2 with ⟨rfl, _⟩ | ⟨g1, _, c1, rfl, _, q1, _⟩
  · cases hg
  · cases hg
    exact ⟨_, _, q1⟩
def Typ (TB TI : TypeId) (w : World) (v : Value) (l : List BlkD) : Prop := (∀ q, v.ownBlock = some q → ∃ cs f, w.heap[q]? = some (.cells cs TB f)) ∧ ∀ x ∈ l, ∀ q, x.vi.ownBlock = some q → ∃ cs f, w.heap[q]? = some (.cells cs TI f)
theorem Cp.typ {B : Nat} {TB TI : TypeId} {w : World} {v : Value} {ys : List BlkD} (h : Cp B TB TI w v ys) : Typ TB TI w v ys := ⟨fun _ e => own_ty h.own e, fun x hx _ e => own_ty (h.row x hx) e⟩
theorem Typ.drop {TB TI : TypeId} {w : World} {v v' : Value} {l : List BlkD} (h : Typ TB TI w v l) (e : v'.ownBlock = v.ownBlock) (n : Nat) : Typ TB TI w v' (l.drop n) := ⟨fun q hq => h.1 q (by rw [← e]; exact hq), fun x hx => h.2 x (List.mem_of_mem_drop hx)⟩
structure UndoD where
  hart : Int
  was : Hart
  frm : Int
  bytes : List Int
  lost : List (Int × Int)
def lost1 (k : Nat) (was now : List Hart) (j : Nat) : List (Int × Int) := if j ≠ k ∧ (was.getD j hart0).held = true ∧ (now.getD j hart0).held = false then [((j : Int), (was.getD j hart0).heldAt)] else []
def lostN (k : Nat) (was now : List Hart) : Nat → List (Int × Int)
  | 0 => []
  | n + 1 => lostN k was now n ++ lost1 k was now n
def stepC (k : Nat) (s : St) : CoreD := goS (⟨s.hart k, s.mem, [], 0, 0⟩ : CoreD)
def undoOf (k : Nat) (s : St) : UndoD :=
  ⟨k, s.hart k, if (stepC k s).fr < (stepC k s).tw then (stepC k s).fr else 0, if (stepC k s).fr < (stepC k s).tw then (s.mem.drop (stepC k s).fr.toNat).take ((stepC k s).tw - (stepC k s).fr).toNat else [], lostN k s.harts (goM k s).harts s.harts.length⟩
def undoPick (k : Nat) : Nat → St → List UndoD
  | 0, _ => []
  | n + 1, s => if (s.hart k).state = 0 then undoOf k s :: undoPick k n (goM k s) else []
def undoPlay : List (Int × Int) → St → List UndoD
  | [], _ => []
  | p :: r, s => undoPick p.1.toNat p.2.toNat s ++ undoPlay r (pickM p.1.toNat p.2.toNat s)
theorem undoPlay_append : ∀ (a b : List (Int × Int)) (s : St), undoPlay (a ++ b) s = undoPlay a s ++ undoPlay b (playM a s)
  | [], _, _ => rfl
  | p :: r, b, s => by
    show undoPick _ _ s ++ undoPlay (r ++ b) _ = (undoPick _ _ s ++ undoPlay r _) ++ undoPlay b (playM r _)
    rw [undoPlay_append r b, List.append_assoc]
theorem undoPick_stop {k : Nat} {s : St} (h : ¬ (s.hart k).state = 0) (n : Nat) : undoPick k n s = [] := by
  cases n with
  | zero => rfl
  | succ n => unfold undoPick; rw [if_neg h]
theorem undoPick_len {k : Nat} : ∀ (n : Nat) (s : St), (undoPick k n s).length ≤ n
  | 0, _ => Nat.le_refl _
  | n + 1, s => by
    unfold undoPick
    split
    · have := undoPick_len (k := k) n (goM k s)
      rw [List.length_cons]; omega
    · simp
theorem lostN_len (k : Nat) (was now : List Hart) : ∀ n, (lostN k was now n).length ≤ n
  | 0 => Nat.le_refl _
  | n + 1 => by
    have := lostN_len k was now n
    unfold lostN lost1
    rw [List.length_append]
    split
    · simp; omega
    · simp; omega
structure UndD where
  d : UndoD
  vb : Value
  vl : Value
def llist (p : Int × Int) : List Value := [.int .i64 p.1, .int .u32 p.2]
def ulist (x : UndD) : List Value := .int .i64 x.d.hart :: (hlist x.d.was ++ [.int .u32 x.d.frm, x.vb, x.vl])
theorem ulist_len {x : UndD} (h : x.d.was.regs.length = 32) : (ulist x).length = 41 := by
  unfold ulist
  rw [List.length_cons, List.length_append, hlist_len h]
  rfl
structure Up (B : Nat) (TD TY TL : TypeId) (w : World) (v : Value) (us : List UndD) : Prop where
  own : w.ownsRow B TD 41 v us.length (us.flatMap ulist)
  wf : ∀ x ∈ us, x.d.was.Wf
  byt : ∀ x ∈ us, w.ownsRow B TY 1 x.vb x.d.bytes.length (x.d.bytes.map (Value.int .u8))
  los : ∀ x ∈ us, w.ownsRow B TL 2 x.vl x.d.lost.length (x.d.lost.flatMap llist)
section
variable {B : Nat} {TD TY TL : TypeId} {w w' : World} {v v' : Value} {us : List UndD} {x : UndD}
theorem Up.nil (w : World) : Up B TD TY TL w (.slice none 0 0) [] := ⟨World.ownsRow_nil _ _ _ _, (by intro x hx; cases hx), (by intro x hx; cases hx), (by intro x hx; cases hx)⟩
theorem Up.keep (h : Up B TD TY TL w v us) (hk : ∀ q, q < w.heap.size → B ≤ q → (∃ cs f, w.heap[q]? = some (.cells cs TD f) ∨ w.heap[q]? = some (.cells cs TY f) ∨ w.heap[q]? = some (.cells cs TL f)) → w'.heap[q]? = w.heap[q]?) : Up B TD TY TL w' v us := by
  refine ⟨owns_block h.own (fun g hg => ?_), h.wf, fun x hx => owns_block (h.byt x hx) (fun g hg => ?_), fun x hx => owns_block (h.los x hx) (fun g hg => ?_)⟩
  · obtain ⟨cs, f, e⟩ := own_ty h.own hg
    exact hk g (h.own.lt g hg).2 (h.own.lt g hg).1 ⟨cs, f, .inl e⟩
  · obtain ⟨cs, f, e⟩ := own_ty (h.byt x hx) hg
    exact hk g ((h.byt x hx).lt g hg).2 ((h.byt x hx).lt g hg).1 ⟨cs, f, .inr (.inl e)⟩
  · obtain ⟨cs, f, e⟩ := own_ty (h.los x hx) hg
    exact hk g ((h.los x hx).lt g hg).2 ((h.los x hx).lt g hg).1 ⟨cs, f, .inr (.inr e)⟩
theorem Up.below (h : Up B TD TY TL w v us) (hb : Below w.heap.size w w') : Up B TD TY TL w' v us := h.keep (fun q hq _ _ => hb.block q hq)
theorem Up.mono (h : Up B TD TY TL w v us) {B' : Nat} (hb : B' ≤ B) : Up B' TD TY TL w v us := ⟨owns_mono h.own hb, h.wf, fun x hx => owns_mono (h.byt x hx) hb, fun x hx => owns_mono (h.los x hx) hb⟩
theorem Up.snoc (h1 : TD ≠ TY) (h2 : TD ≠ TL) (h : Up B TD TY TL w v us) (wx : x.d.was.Wf) (hb : w.ownsRow B TY 1 x.vb x.d.bytes.length (x.d.bytes.map (Value.int .u8))) (hl : w.ownsRow B TL 2 x.vl x.d.lost.length (x.d.lost.flatMap llist)) (hown : w'.ownsRow B TD 41 v' (us.length + 1) (us.flatMap ulist ++ ulist x)) (hg : w.grownBy w' v.ownBlock) : Up B TD TY TL w' v' (us ++ [x]) := by
  have kb : ∀ (vv : Value) (n : Nat) (xs : List Value), w.ownsRow B TY 1 vv n xs → w'.ownsRow B TY 1 vv n xs := fun vv n xs hz =>
    owns_block hz (fun g e => hg.block g (hz.lt g e).2 (fun e2 => owns_apart h.own hz h1 g e2.symm e))
  have kl : ∀ (vv : Value) (n : Nat) (xs : List Value), w.ownsRow B TL 2 vv n xs → w'.ownsRow B TL 2 vv n xs := fun vv n xs hz =>
    owns_block hz (fun g e => hg.block g (hz.lt g e).2 (fun e2 => owns_apart h.own hz h2 g e2.symm e))
  refine ⟨by simpa using hown, fun z hz => ?_, fun z hz => ?_, fun z hz => ?_⟩
  all_goals rcases List.mem_append.1 hz with hz | hz
  · exact h.wf z hz
  · rw [List.mem_singleton] at hz; rw [hz]; exact wx
  · exact kb _ _ _ (h.byt z hz)
  · rw [List.mem_singleton] at hz; rw [hz]; exact kb _ _ _ hb
  · exact kl _ _ _ (h.los z hz)
  · rw [List.mem_singleton] at hz; rw [hz]; exact kl _ _ _ hl
end
theorem und_at {h : Hart} (wf : h.regs.length = 32) (k : Int) (a b c : Value) (i : Nat) (v : Value) (e : [a, b, c][i]? = some v) : (Value.int .i64 k :: (hlist h ++ [a, b, c]))[38 + i]? = some v := by
  have hl := hlist_len wf
  rw [show 38 + i = (37 + i) + 1 by omega, List.getElem?_cons_succ, List.getElem?_append_right om, hl, show 37 + i - 37 = i by omega]
  exact e
theorem und_set {h : Hart} (wf : h.regs.length = 32) (k : Int) (a b c : Value) (i : Nat) (v : Value) : (Value.int .i64 k :: (hlist h ++ [a, b, c])).set (38 + i) v = Value.int .i64 k :: (hlist h ++ [a, b, c].set i v) := by
  have hl := hlist_len wf
  rw [show 38 + i = (37 + i) + 1 by omega, List.set_cons_succ, List.set_append_right _ _ om, hl, show 37 + i - 37 = i by omega]
structure UBx (TD : TypeId) (u : Nat) (k : Int) (h : Hart) (a b c : Value) (w : World) : Prop where
  wf : h.regs.length = 32
  blk : w.heap[u]? = some (.cells (Value.int .i64 k :: (hlist h ++ [a, b, c])).toArray TD (0, 0))
section
variable {TD : TypeId} {u : Nat} {k : Int} {h : Hart} {a b c : Value} {w w' : World}
theorem UBx.get (hu : UBx TD u k h a b c w) (i : Nat) (v : Value) (e : [a, b, c][i]? = some v) : w.cell? ⟨u, 38 + i, none⟩ = some v := by
  simp only [World.cell?, hu.blk, List.getElem?_toArray]
  exact und_at hu.wf k a b c i v e
theorem UBx.frz (hu : UBx TD u k h a b c w) (o : Nat) : w.frozen? ⟨u, o, none⟩ = false := by simp [World.frozen?, hu.blk]
theorem UBx.keep (hu : UBx TD u k h a b c w) (e : w'.heap[u]? = w.heap[u]?) : UBx TD u k h a b c w' := ⟨hu.wf, e.trans hu.blk⟩
theorem UBx.lt (hu : UBx TD u k h a b c w) : u < w.heap.size := (Array.getElem?_eq_some_iff.1 hu.blk).1
theorem UBx.at_ (hu : UBx TD u k h a b c w) : At w u 0 (Value.int .i64 k :: (hlist h ++ [a, b, c])) := fun j hj => by
  simp only [World.cell?, hu.blk, Nat.zero_add, List.getElem?_toArray]
  exact List.getElem?_eq_getElem hj
theorem UBx.set (hu : UBx TD u k h a b c w) (i : Nat) (v : Value) {a' b' c' : Value} (e : [a, b, c].set i v = [a', b', c']) : UBx TD u k h a' b' c' (w.setCell ⟨u, 38 + i, none⟩ v) := by
  refine ⟨hu.wf, ?_⟩
  simp only [World.setCell, Array.getElem?_modify]
  rw [if_pos trivial, hu.blk]
  simp only [Option.map_some, Option.isSome_none, Bool.false_eq_true, if_false, List.setIfInBounds_toArray]
  rw [und_set hu.wf, e]
end
theorem sl_cut3 {w : World} {ab : Option Addr} {c : Nat} {l : List Int} (h : Sl w (.slice ab l.length c) 1 l.length (l.map (Value.int .u8))) {f t : Nat} (h1 : f ≤ t) (h2 : t ≤ l.length) :
    Sl w (.slice (ab.map (fun x => x.add f)) (t - f) (t - f)) 1 ((l.drop f).take (t - f)).length (((l.drop f).take (t - f)).map (Value.int .u8)) := by
  obtain ⟨hl, ao, cap, e, h3, h4, h5, h6⟩ := h
  cases e
  have hlen : ((l.drop f).take (t - f)).length = t - f := by rw [List.length_take, List.length_drop]; omega
  refine ⟨by simp, ab.map (fun x => x.add f), t - f, by rw [hlen], by rw [hlen]; exact Nat.le_refl _, om, fun e => ?_, fun a ha hx => ?_⟩
  · cases ab with
    | none => have := h5 rfl; omega
    | some x => cases e
  · cases ab with
    | none => cases ha
    | some x =>
      cases ha
      have hne : l.map (Value.int .u8) ≠ [] := by
        intro e
        have : l = [] := List.map_eq_nil_iff.1 e
        rw [this] at hx
        simp at hx
      obtain ⟨hsp, hat⟩ := h6 x rfl hne
      obtain ⟨xb, xo, xs⟩ := x
      simp only at hsp
      subst hsp
      have hadd : Addr.add ⟨xb, xo, none⟩ f = ⟨xb, xo + f, none⟩ := by unfold Addr.add; split <;> simp_all
      simp only [hadd]
      refine ⟨trivial, fun j hj => ?_⟩
      have hj2 : j < t - f := by rw [List.length_map, hlen] at hj; exact hj
      have := hat (f + j) yA
      show w.cell? ⟨xb, xo + f + j, none⟩ = _
      rw [Nat.add_assoc, this]
      simp
structure MicD where
  op : Int
  d : Int
  a : Int
  b : Int
  n : Int
deriving DecidableEq
def mlist (m : MicD) : List Value := [.int .i64 m.op, .int .i64 m.d, .int .i64 m.a, .int .i64 m.b, .int .u32 m.n]
def numOp (op : Int) : Int := if op = 19 then 28 else if op = 20 then 31 else if op = 21 then 32 else if op = 22 then 33 else if op = 23 then 36 else if op = 24 then 37 else if op = 25 then 30 else if op = 26 then 34 else 35
def numM (op rd rs1 n : Int) : List MicD :=
  if rd = 0 then []
  else if rs1 = 0 ∧ (op = 28 ∨ op = 36 ∨ op = 33) then [⟨2, rd, 0, 0, n⟩]
  else if rs1 = 0 ∧ (op = 37 ∨ op = 30 ∨ op = 34 ∨ op = 35) then [⟨2, rd, 0, 0, 0⟩]
  else [⟨500 + op, rd, rs1, 0, n⟩]
def u32 (x : Int) : Int := x % 4294967296
def bodyM (i : InsD) (pc : Int) : List MicD :=
  if i.op = 1 then [⟨2, i.rd, 0, 0, u32 i.imm⟩]
  else if i.op = 2 then [⟨2, i.rd, 0, 0, u32 (pc + u32 i.imm)⟩]
  else if i.op = 3 then [⟨2, i.rd, 0, 0, u32 (pc + 4)⟩, ⟨3, 0, 0, 0, u32 (pc + u32 i.imm)⟩]
  else if i.op = 4 then [⟨528, 32, i.rs1, 0, u32 i.imm⟩, ⟨2, i.rd, 0, 0, u32 (pc + 4)⟩, ⟨4, 0, 32, 0, 0⟩]
  else if i.op ≤ 10 then [⟨100 + i.op, 0, i.rs1, i.rs2, u32 (pc + u32 i.imm)⟩]
  else if i.op ≤ 15 then [⟨200 + i.op, i.rd, i.rs1, 0, u32 i.imm⟩]
  else if i.op ≤ 18 then [⟨300 + i.op, 0, i.rs1, i.rs2, u32 i.imm⟩]
  else if i.op ≤ 27 then numM (numOp i.op) i.rd i.rs1 (u32 i.imm)
  else if i.op ≤ 45 then (if i.rd = 0 then [] else [⟨400 + i.op, i.rd, i.rs1, i.rs2, 0⟩])
  else if i.op ≤ 56 then [⟨600 + i.op, i.rd, i.rs1, i.rs2, 0⟩]
  else if i.op = 58 then [⟨5, 0, 0, 0, 0⟩]
  else if i.op = 59 then [⟨6, 0, 0, 0, 0⟩]
  else []
def insM (i : InsD) (pc : Int) : List MicD := ⟨1, 0, 0, 0, pc⟩ :: bodyM i pc
def rowM (pc : Int) : Nat → List InsD → List MicD
  | _, [] => []
  | k, i :: r => insM i (u32 (pc + u32 (4 * (k : Int)))) ++ rowM pc (k + 1) r
def mkM (pc : Int) (l : List InsD) : List MicD := if 16 < l.length ∨ l.all isS = false then [] else rowM pc 0 l
theorem isS_regs {i : InsD} (h : isS i = true) : (1 ≤ i.op ∧ i.op ≤ 59) ∧ (0 ≤ i.rd ∧ i.rd ≤ 31) ∧ (0 ≤ i.rs1 ∧ i.rs1 ≤ 31) ∧ (0 ≤ i.rs2 ∧ i.rs2 ≤ 31) := by
  unfold isS at h
  rw [Bool.and_eq_true] at h
  have := of_decide_eq_true h.1
  omega
structure MicD.Ok (m : MicD) : Prop where
  op : -9223372036854775808 ≤ m.op ∧ m.op ≤ 9223372036854775807
  d : -9223372036854775808 ≤ m.d ∧ m.d ≤ 9223372036854775807
  a : -9223372036854775808 ≤ m.a ∧ m.a ≤ 9223372036854775807
  b : -9223372036854775808 ≤ m.b ∧ m.b ≤ 9223372036854775807
  n : U32 m.n
structure RunD where
  h : Hart
  m : List Int
  out : List Int
  steps : Int
  stores : List (Int × Int)
  temps : List Int
  here : Int
  own : Bool
  over : Bool
  bf : Int
  bt : Int
def rg (p : Int × Int) : List Value := [.int .u32 p.1, .int .u32 p.2]
def RunD.get (d : RunD) (k : Nat) : Int := if k < 32 then d.h.regs.getD k 0 else d.temps.getD (k - 32) 0
def RunD.put (d : RunD) (k : Nat) (x : Int) : RunD := if 32 ≤ k then { d with temps := d.temps.set (k - 32) x } else { d with h := d.h.setReg k x }
def RunD.stop (d : RunD) (pc : Int) : RunD := { d with over := true, h := d.h.setPc pc }
def RunD.trap (d : RunD) (c : Int) : RunD := { d with over := true, h := (d.h.trap c).setPc d.here }
def hits (a bf bt : Int) (n : Nat) : Bool := (List.range n).any (fun k => decide (bf ≤ u32 (a + (k : Int)) ∧ u32 (a + (k : Int)) < bt))
def RunD.stored (d : RunD) (a : Int) (n : Nat) : RunD := { d with stores := d.stores ++ [(a, u32 (a + n))], own := d.own || hits a d.bf d.bt n }
structure RunD.Wf (d : RunD) : Prop where
  h : d.h.Wf
  m : Bytes d.m
  mlen : d.m.length ≤ 140737488351232
  out : ∀ x ∈ d.out, U32 x
  steps : i64ok d.steps
  stores : ∀ p ∈ d.stores, U32 p.1 ∧ U32 p.2
  tlen : d.temps.length = 4
  temps : ∀ x ∈ d.temps, U32 x
  here : U32 d.here
  bf : U32 d.bf
  bt : U32 d.bt
def r7tail (d : RunD) (vm vo vs : Value) : List Value := [vm, vo, .int .i64 d.steps, vs] ++ (d.temps.map (Value.int .u32) ++ [.int .u32 d.here, .bool d.own, .bool d.over, .int .u32 d.bf, .int .u32 d.bt])
def r7list (d : RunD) (vm vo vs : Value) : List Value := hlist d.h ++ r7tail d vm vo vs
section
variable {d : RunD} {vm vo vs : Value}
theorem r7_len (h : d.h.regs.length = 32) (ht : d.temps.length = 4) : (r7list d vm vo vs).length = 50 := by
  simp [r7list, r7tail, hlist, h, ht]
end
theorem r7ints_keep {k : IntKind} {w w' : World} {v : Value} {l : List Int} (h : Ints k w v l) (hk : l ≠ [] → ∀ q, v.ownBlock = some q → w'.heap[q]? = w.heap[q]?) : Ints k w' v l := by
  obtain ⟨hl, ao, cap, e, q1, q2, q3, q4⟩ := h
  refine ⟨hl, ao, cap, e, q1, q2, q3, fun x hx hn => ?_⟩
  obtain ⟨hs, ha⟩ := q4 x hx hn
  have hb := hk (by intro e2; rw [e2] at hn; exact hn rfl) x.block (by rw [e, hx]; rfl)
  exact ⟨hs, fun j hj => (cell_block hb _).trans (ha j hj)⟩
structure R7 (rp : Nat) (TO TS : TypeId) (w : World) (d : RunD) (vm vo vs : Value) : Prop where
  wf : d.Wf
  at_ : At w rp 0 (r7list d vm vo vs)
  frz : ∀ o, w.frozen? ⟨rp, o, none⟩ = false
  mem : Ints .u8 w vm d.m
  out : w.ownsRow (rp + 1) TO 1 vo d.out.length (d.out.map (Value.int .u32))
  sto : w.ownsRow (rp + 1) TS 2 vs d.stores.length (d.stores.flatMap rg)
  mlt : d.m ≠ [] → ∀ q, vm.ownBlock = some q → q < w.heap.size ∧ q ≠ rp ∧ vo.ownBlock ≠ some q ∧ vs.ownBlock ≠ some q
  apart : ∀ q, vo.ownBlock = some q → vs.ownBlock ≠ some q
structure G7 (rp : Nat) (w : World) (vo vs : Value) (w' : World) (vo' vs' : Value) : Prop where
  os : w'.os = w.os
  tape : w'.tape = w.tape
  output : w'.output = w.output
  size : w.heap.size ≤ w'.heap.size
  block : ∀ k, k < w.heap.size → k ≠ rp → vo.ownBlock ≠ some k → vs.ownBlock ≠ some k → w'.heap[k]? = w.heap[k]?
  vo : ∀ q, vo'.ownBlock = some q → vo.ownBlock = some q ∨ w.heap.size ≤ q
  vs : ∀ q, vs'.ownBlock = some q → vs.ownBlock = some q ∨ w.heap.size ≤ q
section
variable {rp : Nat} {TO TS : TypeId} {w w' w'' : World} {d d' : RunD} {vm vo vs vo' vs' vo'' vs'' : Value}
theorem G7.refl : G7 rp w vo vs w vo vs := ⟨rfl, rfl, rfl, Nat.le_refl _, fun _ _ _ _ _ => rfl, fun _ h => .inl h, fun _ h => .inl h⟩
theorem G7.trans (h : G7 rp w vo vs w' vo' vs') (k : G7 rp w' vo' vs' w'' vo'' vs'') : G7 rp w vo vs w'' vo'' vs'' :=
  ⟨k.os.trans h.os, k.tape.trans h.tape, k.output.trans h.output, Nat.le_trans h.size k.size, fun j hj h1 h2 h3 =>
    (k.block j (Nat.lt_of_lt_of_le hj h.size) h1 (fun e => (h.vo j e).elim h2 (fun e2 => absurd hj (Nat.not_lt.2 e2))) (fun e => (h.vs j e).elim h3 (fun e2 => absurd hj (Nat.not_lt.2 e2)))).trans (h.block j hj h1 h2 h3),
    fun q e => (k.vo q e).elim (fun e2 => h.vo q e2) (fun e2 => .inr (Nat.le_trans h.size e2)),
    fun q e => (k.vs q e).elim (fun e2 => h.vs q e2) (fun e2 => .inr (Nat.le_trans h.size e2))⟩
theorem G7.below (hb : Below w.heap.size w w') : G7 rp w vo vs w' vo vs := ⟨hb.os, hb.tape, hb.output, hb.size, fun k hk _ _ _ => hb.block k hk, fun _ h => .inl h, fun _ h => .inl h⟩
theorem G7.set (o : Nat) (v : Value) : G7 rp w vo vs (w.setCell ⟨rp, o, none⟩ v) vo vs :=
  ⟨rfl, rfl, rfl, by simp, fun k _ h1 _ _ => Below.heap_setCell _ _ _ _ (by show k ≠ rp; exact h1), fun _ h => .inl h, fun _ h => .inl h⟩
theorem R7.lt (h : R7 rp TO TS w d vm vo vs) : rp < w.heap.size := by
  have h1 := h.at_ 0 (by rw [r7_len h.wf.h.len h.wf.tlen]; omega)
  exact lt_of_cell h1
theorem R7.below (h : R7 rp TO TS w d vm vo vs) (hb : Below w.heap.size w w') : R7 rp TO TS w' d vm vo vs :=
  ⟨h.wf, h.at_.below hb, fun o => (hb.frozen (p := ⟨rp, o, none⟩) h.lt).trans (h.frz o), h.mem.below hb, owns_below h.out hb, owns_below h.sto hb, fun hn q e => by have := h.mlt hn q e; exact ⟨Nat.lt_of_lt_of_le this.1 hb.size, this.2⟩, h.apart⟩
theorem G7.keeps (h : G7 rp w vo vs w' vo' vs') {b off : Nat} {xs : List Value} (ha : At w b off xs) (h1 : b ≠ rp) (h2 : vo.ownBlock ≠ some b) (h3 : vs.ownBlock ≠ some b) : At w' b off xs := fun j hj =>
  (World.cell?_of_block (h.block b (lt_of_cell (ha j hj)) h1 h2 h3)).trans (ha j hj)
end
section
variable {rp : Nat} {TO TS : TypeId} {w w2 w3 : World} {d : RunD} {vm vo vs v' : Value}
end
def dq (q : Int) (l : List BlkD) : List BlkD := if 0 ≤ q then l.eraseIdx q.toNat else l
theorem dq_len (q : Int) (l : List BlkD) : (dq q l).length ≤ l.length := by
  unfold dq; split
  · exact List.length_eraseIdx_le l q.toNat
  · exact Nat.le_refl _
theorem dq_mem {q : Int} {l : List BlkD} {x : BlkD} (h : x ∈ dq q l) : x ∈ l := by
  unfold dq at h; split at h
  · exact List.mem_of_mem_eraseIdx h
  · exact h
def putL (room : Int) (l : List BlkD) (y : BlkD) : List BlkD := if room < ((dq (placeI l y.pc) l ++ [y]).length : Int) then (dq (placeI l y.pc) l ++ [y]).drop 1 else dq (placeI l y.pc) l ++ [y]
structure ShownAt (w : World) (vm vh vo : Value) (s : St) : Prop where
  mach : MachAt w vm vh s.mach
  out : Ints .u32 w vo s.out
theorem shown_nil (w : World) (n : Nat) : ShownAt w (.slice none 0 0) (.slice none 0 0) (.slice none 0 0) ⟨[], [], [], n⟩ :=
  have h : ∀ (s : Nat), Sl w (.slice none 0 0) s 0 [] := fun s => ⟨by simp, none, 0, rfl, Nat.zero_le _, by decide, fun _ => rfl, fun a ha => by cases ha⟩
  ⟨⟨h 1, h 37⟩, h 1⟩
theorem ShownAt.setCells {w : World} {vm vh vo : Value} {s : St} (h : ShownAt w vm vh vo s) {b : Nat} (h1 : ∀ k, vm.ownBlock = some k → b < k) (h2 : ∀ k, vh.ownBlock = some k → b < k) (h3 : ∀ k, vo.ownBlock = some k → b < k) (o : Nat) (vs : List Value) : ShownAt (w.setCells b o vs) vm vh vo s :=
  ⟨⟨sl_setCells (fun b' off n c e => by have := h1 b' zX; omega) _ _ _ h.mach.1, sl_setCells (fun b' off n c e => by have := h2 b' zX; omega) _ _ _ h.mach.2⟩, sl_setCells (fun b' off n c e => by have := h3 b' zX; omega) _ _ _ h.out⟩
theorem there_blk {w : World} {b n : Nat} {cs : Array Value} {t : TypeId} (h : w.heap[b]? = some (.cells cs t (0, 0))) (hn : cs.size = n) : w.there b 0 n := fun j hj => by
  have hj2 : 0 + j < cs.size := om
  exact ⟨by unfold World.cell?; rw [h]; simp; omega, by unfold World.frozen?; rw [h]; simp⟩
section
variable {bp bh hc cp k : Nat} {vm vo : Value} {ty : TypeId} {o0 o : List Int} {fr tw : Int} {w w' : World} {s : St}
theorem Bd.shown (h : Bd bp bh hc vm vo ty w s) (hw : ∀ x ∈ s.harts, x.Wf) : ShownAt w vm (.slice (some ⟨bh, 0, none⟩) s.harts.length hc) vo s := by
  refine ⟨⟨h.bytes, ?_, _, hc, rfl, h.hcap.1, h.hcap.2, (by intro e; cases e), fun a ha _ => ?_⟩, owns_sl h.own⟩
  · show (s.harts.flatMap hlist).length = s.harts.length * 37
    have : ∀ l : List Hart, (∀ x ∈ l, x.Wf) → (l.flatMap hlist).length = l.length * 37 := fun l => by
      induction l with
      | nil => intro _; rfl
      | cons x r ih =>
        intro hx
        rw [List.flatMap_cons, List.length_append, ih (fun y hy => hx y yQ), hlist_length (hx x zH), List.length_cons]
        omega
    exact this _ hw
  · cases ha
    exact ⟨rfl, h.harts⟩
theorem Wk.finish {w1 w0 : World} {B z : Nat} {v3 : Value} (h : Wk bp bh hc cp k vm vo ty o0 o fr tw w s) (h3 : s.out = o0 ++ o) (hB : Below B w0 w) (hBb : B ≤ bp) (hz : z < bp)
    (hown : w1.ownsRow (bp + 1) ty 1 v3 (o0.length + o.length) (o0.map (Value.int .u32) ++ o.map (Value.int .u32))) (hg : w.drew.grownBy w1 vo.ownBlock) :
    Bd bp bh hc vm v3 ty (w1.setCell ⟨bp, 2, none⟩ v3) s ∧ Below B w0 (w1.setCell ⟨bp, 2, none⟩ v3) ∧ (w1.setCell ⟨bp, 2, none⟩ v3).heap[z]? = w.heap[z]? ∧ w.heap.size ≤ (w1.setCell ⟨bp, 2, none⟩ v3).heap.size := by
  have hbw := Nat.lt_trans h.b2 h.clt
  have hlo : ∀ g, vo.ownBlock = some g → bp + 1 ≤ g := fun g e => (h.own.lt g e).1
  have hbd := (h.below (w' := w.drew) (Below.drew br)).stop hown hg
  have e3 : ({ s with out := o0 ++ o } : St) = s := by rw [← h3]
  rw [e3] at hbd
  have hsz : w.heap.size ≤ w1.heap.size := hg.size
  refine ⟨hbd, (hB.drew.grown hg (by show B ≤ w.heap.size; omega) (fun g e => by have := hlo g e; omega)).setCell (p := ⟨bp, 2, none⟩) hBb _, ?_, by simpa using hsz⟩
  exact (Below.heap_setCell _ _ _ _ (by show z ≠ bp; omega)).trans (hg.block z (by show z < w.heap.size; omega) (fun e => by have := hlo _ e.symm; omega))
theorem Wk.any (h : Wk bp bh hc cp k vm vo ty o0 o fr tw w s) (x : List Int) : Wk bp bh hc cp k vm vo ty o0 o fr tw w { s with out := x } :=
  ⟨h.core, h.b1, h.b2, h.c0, h.c1, h.c2, h.c3, h.frz, h.harts, h.mlt, h.own, h.vlt, h.kl, h.hcap⟩
end
theorem PB.begin {w : World} {B bp bh hc : Nat} {vm x : Value} {t ty : TypeId} {m : Mach} (b1 : bp < B) (b2 : bp < bh) (c0 : w.cell? ⟨bp, 0, none⟩ = some vm) (c1 : w.cell? ⟨bp, 1, none⟩ = some x) (c2 : w.cell? ⟨bp, 2, none⟩ = some (.slice none 0 0)) (c3 : w.cell? ⟨bp, 3, none⟩ = some (.int .i64 0))
    (frz : ∀ o, w.frozen? ⟨bp, o, none⟩ = false) (hm : w.ownsRow B t 1 vm m.mem.length (m.mem.map (Value.int .u8))) (hvm : ∀ k, vm.ownBlock = some k → k ≠ bh) (hat : At w bh 0 (m.harts.flatMap hlist)) (hlt : bh < w.heap.size) (hfz : ∀ o, w.frozen? ⟨bh, o, none⟩ = false) (hcap : m.harts.length ≤ hc ∧ hc ≤ maxLen) :
    PB bp bh hc vm (.slice none 0 0) ty (w.setCell ⟨bp, 1, none⟩ (.slice (some ⟨bh, 0, none⟩) m.harts.length hc)) (startM m) := by
  have hc : ∀ j, j ≠ 1 → (w.setCell ⟨bp, 1, none⟩ (.slice (some ⟨bh, 0, none⟩) m.harts.length hc)).cell? ⟨bp, j, none⟩ = w.cell? ⟨bp, j, none⟩ := fun j hj => World.cell?_setCell_other _ _ _ _ zF
  refine ⟨b2, (hc 0 om).trans c0, World.cell?_setCell_same _ _ _ c1, (hc 2 om).trans c2, (hc 3 om).trans c3, fun o => (World.frozen?_setCell _ _ _ _).trans (frz o), hat.set_other (by show bp ≠ bh; omega) _, by simpa using hlt, fun o => (World.frozen?_setCell _ _ _ _).trans (hfz o), ?_, fun _ k e => ⟨?_, hvm k e, by intro e2; cases e2⟩, World.ownsRow_nil _ _ _ _, hcap⟩
  · exact ints_move (by have := owns_sl hm; unfold Ints; exact this) (fun _ g hg => Below.heap_setCell _ _ _ _ (by show g ≠ bp; have := hm.lt g hg; omega))
  · have := hm.lt k e; omega
section
variable {bp bh hc : Nat} {vm vo : Value} {ty : TypeId} {w : World} {s : St}
theorem PB.shown (h : PB bp bh hc vm vo ty w s) (hw : ∀ x ∈ s.harts, x.Wf) : ShownAt w vm (.slice (some ⟨bh, 0, none⟩) s.harts.length hc) vo s := by
  refine ⟨⟨h.bytes, ?_, _, hc, rfl, h.hcap.1, h.hcap.2, (by intro e; cases e), fun a ha _ => ?_⟩, owns_sl h.own⟩
  · exact flatMap_length hlist 37 (fun x hx => hlist_length (hw x hx))
  · cases ha
    exact ⟨rfl, h.harts⟩
theorem PB.hart (h : PB bp bh hc vm vo ty w s) (wf : s.Wf) {k : Nat} (hk : k < s.harts.length) : At w bh (k * 37) (hlist (s.hart k)) := by
  rw [St.hart_at hk]
  exact at_hart h.harts (fun x hx => hlist_length (wf.harts x hx)) hk
end
theorem heap_setCells {b j : Nat} (hj : j ≠ b) : ∀ (vs : List Value) (o : Nat) (w : World), (w.setCells b o vs).heap[j]? = w.heap[j]?
  | [], _, _ => rfl
  | v :: r, o, w => by rw [World.setCells, heap_setCells hj r]; exact Below.heap_setCell _ _ _ _ (by show j ≠ b; exact hj)
theorem at_set_all {w : World} {b o : Nat} {vs : List Value} (h : w.there b o vs.length) : At (w.setCells b o vs) b o vs := fun j hj =>
  World.rangeAt_setCells_same w b o vs h j vs[j] (by simp [hj])
theorem PB.far {bp bh hc b : Nat} {vm vo : Value} {ty : TypeId} {w : World} {s : St} (h : PB bp bh hc vm vo ty w s) (hb : b < bp) (o : Nat) (vs : List Value) : PB bp bh hc vm vo ty (w.setCells b o vs) s := by
  have b1 := h.b1
  have hk : ∀ g, bp ≤ g → (w.setCells b o vs).heap[g]? = w.heap[g]? := fun g hg => heap_setCells om _ _ _
  exact ⟨h.b1, (cell_block (hk bp (Nat.le_refl _)) _).trans h.c0, (cell_block (hk bp (Nat.le_refl _)) _).trans h.c1, (cell_block (hk bp (Nat.le_refl _)) _).trans h.c2, (cell_block (hk bp (Nat.le_refl _)) _).trans h.c3, fun o => (frozen_block (hk bp (Nat.le_refl _)) o).trans (h.frz o), fun j hj => (cell_block (hk bh om) _).trans (h.harts j hj), by simpa [size_setCells] using h.hlt, fun o => (frozen_block (hk bh om) o).trans (h.hfz o), ints_move h.bytes (fun hne g hg => hk g (by have := (h.mlt hne g hg).1; omega)), h.mlt, owns_block h.own (fun g hg => hk g (by have := (h.own.lt g hg).1; omega)), h.hcap⟩
theorem DidOf.lay {w : World} {d : DidD} {c : CoreD} (h : DidOf w d c) (ok : d.Ok) {bd : Nat} (hm : c.m ≠ [] → ∀ g, d.vm.ownBlock = some g → g ≠ bd) (ho : c.out ≠ [] → ∀ g, d.vo.ownBlock = some g → g ≠ bd) (ht : w.there bd 0 41) :
    DidOf (w.setCells bd 0 (dlist d)) d c ∧ At (w.setCells bd 0 (dlist d)) bd 0 (dlist d) :=
  ⟨⟨h.h, ints_move h.m (fun hne g hg => heap_setCells (hm hne g hg) _ _ _), ints_move h.o (fun hne g hg => heap_setCells (ho hne g hg) _ _ _), h.fr, h.many⟩, at_set_all (by rw [dlist_len ok]; exact ht)⟩
def Shape (w : World) (g : Nat) (t : TypeId) (n : Nat) : Prop := ∃ cur : Array Value, w.heap[g]? = some (.cells cur t (0, 0)) ∧ cur.size = n
section
variable {w w' : World} {g : Nat} {t : TypeId} {n : Nat}
theorem Shape.lt (h : Shape w g t n) : g < w.heap.size := by obtain ⟨cur, e, _⟩ := h; exact (Array.getElem?_eq_some_iff.1 e).1
theorem Shape.block (h : Shape w g t n) (e : w'.heap[g]? = w.heap[g]?) : Shape w' g t n := by obtain ⟨cur, h1, h2⟩ := h; exact ⟨cur, e.trans h1, h2⟩
theorem Shape.setCell (h : Shape w g t n) (p : Addr) (u : Value) : Shape (w.setCell p u) g t n := by
  by_cases e : g = p.block
  · subst e
    obtain ⟨cur, h1, h2⟩ := h
    cases hs : p.spot with
    | none => exact ⟨cur.setIfInBounds p.off u, by simp [World.setCell, Array.getElem?_modify, hs, h1], by simpa using h2⟩
    | some s => exact ⟨cur, by simp [World.setCell, Array.getElem?_modify, hs, h1], h2⟩
  · exact h.block (Below.heap_setCell _ _ _ _ e)
theorem Shape.setCells (b : Nat) : ∀ (vs : List Value) (o : Nat) {w : World}, Shape w g t n → Shape (w.setCells b o vs) g t n
  | [], _, _, h => h
  | v :: r, o, _, h => Shape.setCells b r (o + 1) (h.setCell ⟨b, o, none⟩ v)
theorem Shape.frozen (h : Shape w g t n) (o : Nat) : w.frozen? ⟨g, o, none⟩ = false := by obtain ⟨cur, h1, _⟩ := h; simp [World.frozen?, h1]
theorem Shape.isSome (h : Shape w g t n) {o : Nat} (ho : o < n) : (w.cell? ⟨g, o, none⟩).isSome = true := by obtain ⟨cur, h1, h2⟩ := h; simp [World.cell?, h1]; omega
theorem Shape.there (h : Shape w g t n) {o m : Nat} (ho : o + m ≤ n) : w.there g o m := fun j hj => ⟨h.isSome om, h.frozen _⟩
theorem Shape.owns {B s k cap : Nat} {xs : List Value} (h : Shape w g t (cap * s)) (hat : At w g 0 xs) (hl : xs.length = k * s) (hk : k ≤ cap) (hc : cap ≤ maxLen) (hB : B ≤ g) : w.ownsRow B t s (.slice (some ⟨g, 0, none⟩) k cap) k xs := by
  obtain ⟨cur, h1, h2⟩ := h
  refine ⟨hl, .inr ⟨g, cap, cur, rfl, hB, h1, hk, hc, h2, ?_⟩⟩
  have hks : k * s ≤ cap * s := Nat.mul_le_mul_right s hk
  refine List.ext_getElem (by simp [hl]; omega) (fun i h3 h4 => ?_)
  have := hat i h4
  rw [Nat.zero_add] at this
  have hci : i < cur.size := om
  have h6 : w.cell? ⟨g, i, none⟩ = Option.some cur[i] := by simp [World.cell?, h1, hci]
  rw [h6] at this
  have h7 := Option.some.inj this
  simpa using h7
theorem shape_of {B s k : Nat} {v : Value} {xs : List Value} (h : w.ownsRow B t s v k xs) (hk : 0 < k) : ∃ cap, v = .slice (some ⟨v.ownBlock.getD 0, 0, none⟩) k cap ∧ B ≤ v.ownBlock.getD 0 ∧ k ≤ cap ∧ cap ≤ maxLen ∧ Shape w (v.ownBlock.getD 0) t (cap * s) ∧ At w (v.ownBlock.getD 0) 0 xs := by
  rcases owns_open h with ⟨_, e, _⟩ | ⟨g, cap, rfl, hB, hg, hn, hm, hat, _⟩
  · omega
  · obtain ⟨_, h2⟩ := h
    rcases h2 with ⟨e, _⟩ | ⟨g', cap', cur, e, _, h1, _, _, h4, _⟩
    · cases e
    · cases e
      exact ⟨cap, rfl, hB, hn, hm, ⟨cur, h1, h4⟩, hat⟩
end
theorem shape_apart {w : World} {g n B s k : Nat} {t t' : TypeId} {v : Value} {xs : List Value} (h : Shape w g t n) (h' : w.ownsRow B t' s v k xs) (hne : t ≠ t') : ∀ j, v.ownBlock = some j → j ≠ g := by
  intro j hj e
  subst e
  obtain ⟨cur, h1, _⟩ := h
  rcases h'.2 with ⟨rfl, _⟩ | ⟨g2, _, c2, rfl, _, e2, _⟩
  · cases hj
  · cases hj
    rw [h1] at e2
    cases e2
    exact hne rfl
structure Dl (B : Nat) (TB TI : TypeId) (g cap : Nat) (w0 w : World) (ys : List BlkD) (kept : List BlkD) (j : Nat) : Prop where
  shape : Shape w g TB (cap * 2)
  front : At w g 0 (kept.flatMap blist)
  rest : ∀ q (hq : q < ys.length), j ≤ q → At w g (q * 2) (blist ys[q])
  row : ∀ y ∈ ys, w.ownsRow B TI 5 y.vi y.ins.length (y.ins.flatMap ilist)
  bel : Below B w0 w
section
variable {B : Nat} {TB TI : TypeId} {g cap j : Nat} {w0 w w' : World} {ys kept : List BlkD}
theorem Dl.begin {v : Value} (h : Cp B TB TI w v ys) (hl : 0 < ys.length) : ∃ g cap, v = .slice (some ⟨g, 0, none⟩) ys.length cap ∧ B ≤ g ∧ ys.length ≤ cap ∧ cap ≤ maxLen ∧ ∀ k, (hk : k ≤ ys.length) → Dl B TB TI g cap w w ys (ys.take k) k := by
  obtain ⟨cap, e, hB, hc, hm, hs, hat⟩ := shape_of h.own hl
  refine ⟨_, cap, e, hB, hc, hm, fun k hk => ⟨hs, ?_, fun q hq _ => ?_, h.row, Below.refl _ _⟩⟩
  · have : ys.flatMap blist = (ys.take k).flatMap blist ++ (ys.drop k).flatMap blist := by rw [← List.flatMap_append, List.take_append_drop]
    rw [this] at hat
    exact hat.append_left
  · have := At.elem blist 2 (fun _ _ => rfl) hat q hq
    simpa using this
theorem Dl.below (h : Dl B TB TI g cap w0 w ys kept j) (hB : B ≤ w.heap.size) (hb : Below w.heap.size w w') : Dl B TB TI g cap w0 w' ys kept j :=
  ⟨h.shape.block (hb.block g h.shape.lt), h.front.below hb, fun q hq hj => (h.rest q hq hj).below hb, fun y hy => owns_below (h.row y hy) hb, h.bel.trans (hb.mono hB)⟩
theorem Dl.skip (h : Dl B TB TI g cap w0 w ys kept j) : Dl B TB TI g cap w0 w ys kept (j + 1) := ⟨h.shape, h.front, fun q hq hj => h.rest q hq om, h.row, h.bel⟩
theorem flat2_len : ∀ l : List BlkD, (l.flatMap blist).length = l.length * 2
  | [] => rfl
  | x :: r => by rw [List.flatMap_cons, List.length_append, flat2_len r, List.length_cons]; simp [blist]; omega
theorem Dl.keep (hne : TB ≠ TI) (hBg : B ≤ g) (h : Dl B TB TI g cap w0 w ys kept j) (x : BlkD) (hk : kept.length ≤ j) (hjc : j < cap) :
    Dl B TB TI g cap w0 ((w.setCell ⟨g, kept.length * 2, none⟩ (.int .u32 x.pc)).setCell ⟨g, kept.length * 2 + 1, none⟩ x.vi) ys (kept ++ [x]) (j + 1) := by
  have hs0 := h.shape.isSome (o := kept.length * 2) om
  have hs1 := h.shape.isSome (o := kept.length * 2 + 1) om
  obtain ⟨u0, hu0⟩ := Option.isSome_iff_exists.1 hs0
  obtain ⟨u1, hu1⟩ := Option.isSome_iff_exists.1 hs1
  have hoff : ∀ o, o ≠ kept.length * 2 → o ≠ kept.length * 2 + 1 → ((w.setCell ⟨g, kept.length * 2, none⟩ (.int .u32 x.pc)).setCell ⟨g, kept.length * 2 + 1, none⟩ x.vi).cell? ⟨g, o, none⟩ = w.cell? ⟨g, o, none⟩ := fun o h1 h2 => by
    rw [World.cell?_setCell_other _ _ _ _ (by intro e; injection e with _ e2; exact h2 e2.symm), World.cell?_setCell_other _ _ _ _ (by intro e; injection e with _ e2; exact h1 e2.symm)]
  refine ⟨(h.shape.setCell _ _).setCell _ _, ?_, fun q hq hj i hi => ?_, fun y hy => ?_, (h.bel.setCell (p := ⟨g, kept.length * 2, none⟩) hBg _).setCell (p := ⟨g, kept.length * 2 + 1, none⟩) hBg _⟩
  · rw [List.flatMap_append]
    refine At.append (fun i hi => ?_) ?_
    · have hl := flat2_len kept
      rw [hoff _ om om]
      exact h.front i hi
    · rw [flat2_len, Nat.zero_add]
      intro i hi
      have hi2 : i < 2 := hi
      match i, hi with
      | 0, _ => exact (World.cell?_setCell_other _ _ _ _ zF).trans (World.cell?_setCell_same _ _ _ hu0)
      | 1, _ => exact World.cell?_setCell_same _ _ _ ((World.cell?_setCell_other _ _ _ _ zF).trans hu1)
  · have hi2 : i < 2 := hi
    rw [hoff _ om om]
    exact h.rest q hq om i hi
  · refine owns_block (h.row y hy) (fun k hk => ?_)
    have := shape_apart h.shape (h.row y hy) hne k hk
    rw [Below.heap_setCell _ _ _ _ (by show k ≠ g; exact this), Below.heap_setCell _ _ _ _ (by show k ≠ g; exact this)]
theorem Dl.finish (hne : TB ≠ TI) (hBg : B ≤ g) (h : Dl B TB TI g cap w0 w ys kept j) (hsub : ∀ y ∈ kept, y ∈ ys) (hpc : ∀ y ∈ ys, U32 y.pc) (hk : kept.length ≤ cap) (hm : cap ≤ maxLen) (zs : List Value) :
    Cp B TB TI (w.setCells g (kept.length * 2) zs) (.slice (some ⟨g, 0, none⟩) kept.length cap) kept ∧ Below B w0 (w.setCells g (kept.length * 2) zs) := by
  refine ⟨⟨(Shape.setCells g zs _ h.shape).owns (fun i hi => ?_) (flat2_len _) hk hm hBg, fun y hy => hpc y (hsub y hy), fun y hy => owns_block (h.row y (hsub y hy)) (fun k hk => heap_setCells (shape_apart h.shape (h.row y (hsub y hy)) hne k hk) _ _ _)⟩, below_setCells hBg _ _ _ h.bel⟩
  have hl := flat2_len kept
  rw [World.cell?_setCells_out _ _ _ _ _ (fun _ hs => by left; show 0 + i < _; omega)]
  exact h.front i hi
end
section
variable {B : Nat} {TB TI : TypeId} {g cap k : Nat} {w : World} {ys : List BlkD} {v : Value}
end
section
variable {B TB h : Nat} {w w6 w8 w9 : World} {zs : List BlkD} {v : Value} {xs : List Value} {n : Nat}
end
def pcs (l : List BlkD) : List Int := l.map (·.pc)
theorem pcs_abs {l l' : List BlkD} (h : l.map BlkD.abs = l'.map BlkD.abs) : pcs l = pcs l' := by
  have : ∀ l : List BlkD, pcs l = (l.map BlkD.abs).map Prod.fst := fun l => by unfold pcs; rw [List.map_map]; rfl
  rw [this, this, h]
theorem len_abs {l l' : List BlkD} (h : l.map BlkD.abs = l'.map BlkD.abs) : l.length = l'.length := by have := congrArg List.length h; simpa using this
theorem nodup_inj {l : List Int} (hd : l.Nodup) {i j : Nat} (hi : i < l.length) (hj : j < l.length) (e : l[i] = l[j]) : i = j := by
  rcases Nat.lt_trichotomy i j with h | h | h
  · exact absurd e (List.pairwise_iff_getElem.1 hd i j hi hj h)
  · exact h
  · exact absurd e.symm (List.pairwise_iff_getElem.1 hd j i hj hi h)
theorem pcs_inj {l : List BlkD} (hd : (pcs l).Nodup) {i j : Nat} (hi : i < l.length) (hj : j < l.length) (e : l[i].pc = l[j].pc) : i = j := by
  have h : (l.map (·.pc)).Nodup := hd
  exact nodup_inj h (by simpa using hi) (by simpa using hj) (by simp only [List.getElem_map]; exact e)
theorem dq_not {l : List BlkD} {pc : Int} (hd : (pcs l).Nodup) : ∀ x ∈ dq (placeI l pc) l, x.pc ≠ pc := by
  intro x hx
  unfold dq placeI at hx
  by_cases h : placeN l pc < l.length
  · rw [if_pos h] at hx
    rw [if_pos om, Int.toNat_natCast] at hx
    intro e
    have hp : (l[placeN l pc].pc == pc) = true := List.findIdx_getElem (p := fun x : BlkD => x.pc == pc) (xs := l) (w := h)
    have hp2 : l[placeN l pc].pc = pc := by simpa using hp
    obtain ⟨i, hi, hne, rfl⟩ : ∃ i, ∃ hi : i < l.length, i ≠ placeN l pc ∧ l[i] = x := by
      obtain ⟨j, hj, e2⟩ := List.mem_iff_getElem.1 hx
      rw [List.getElem_eraseIdx] at e2
      split at e2
      · exact ⟨j, om, om, e2⟩
      · rename_i hjj
        have hj3 := hj
        rw [List.length_eraseIdx] at hj3
        simp only [h, if_true] at hj3
        exact ⟨j + 1, om, om, e2⟩
    exact hne (pcs_inj hd hi h (by rw [e, hp2]))
  · rw [if_neg h, if_neg om] at hx
    intro e
    have : (pcs l).length = (pcs l).length := rfl
    refine h ?_
    unfold placeN
    exact List.findIdx_lt_length_of_exists ⟨x, hx, by simp [e]⟩
theorem dq_sub (q : Int) (l : List BlkD) : (dq q l).Sublist l := by
  unfold dq; split
  · exact List.eraseIdx_sublist l q.toNat
  · exact List.Sublist.refl _
theorem pcs_sub {l l' : List BlkD} (h : l.Sublist l') (hd : (pcs l').Nodup) : (pcs l).Nodup := List.Sublist.nodup (h.map _) hd
theorem pcs_snoc {l : List BlkD} {y : BlkD} (hd : (pcs l).Nodup) (hn : ∀ x ∈ l, x.pc ≠ y.pc) : (pcs (l ++ [y])).Nodup := by
  unfold pcs
  rw [List.map_append, List.nodup_append]
  refine ⟨hd, by simp, ?_⟩
  intro a ha b hb
  obtain ⟨x, hx, rfl⟩ := List.mem_map.1 ha
  simp only [List.map_cons, List.map_nil, List.mem_singleton] at hb
  rw [hb]; exact hn x hx
theorem putL_keeps {room : Int} {l : List BlkD} {y : BlkD} (h0 : 0 ≤ room) (hl : (l.length : Int) ≤ room) (hd : (pcs l).Nodup) (hi : ∀ x ∈ l, x.ins.length ≤ 16) (hy : y.ins.length ≤ 16) :
    (pcs (putL room l y)).Nodup ∧ ((putL room l y).length : Int) ≤ room ∧ (∀ x ∈ putL room l y, x.ins.length ≤ 16) ∧ (0 < room → ∃ A, putL room l y = A ++ [y] ∧ ∀ x ∈ A, x.pc ≠ y.pc) := by
  have hnd := pcs_snoc (pcs_sub (dq_sub (placeI l y.pc) l) hd) (dq_not (pc := y.pc) hd)
  have hln := dq_len (placeI l y.pc) l
  have hii : ∀ x ∈ dq (placeI l y.pc) l ++ [y], x.ins.length ≤ 16 := fun x hx => by
    rcases List.mem_append.1 hx with hx | hx
    · exact hi x (dq_mem hx)
    · rw [List.mem_singleton] at hx; rw [hx]; exact hy
  unfold putL
  split
  · rename_i hgt
    refine ⟨pcs_sub (List.drop_sublist _ _) hnd, by simp; omega, fun x hx => hii x (List.mem_of_mem_drop hx), fun hp => ?_⟩
    simp only [List.length_append, List.length_cons, List.length_nil] at hgt
    have hne : 1 ≤ (dq (placeI l y.pc) l).length := om
    refine ⟨(dq (placeI l y.pc) l).drop 1, by rw [List.drop_append_of_le_length hne], fun x hx => dq_not hd x (List.mem_of_mem_drop hx)⟩
  · rename_i hgt
    exact ⟨hnd, om, hii, fun _ => ⟨_, rfl, dq_not hd⟩⟩
theorem blks_sets {w : World} {v : Value} {l : List BlkD} {B b : Nat} (h : Blks w v l) (hf : Far B v l) (hb : b < B) (o : Nat) (us : List Value) : Blks (w.setCells b o us) v l :=
  ⟨sl_setCells (fun b' off n c e => by have := hf.1 b' zX; omega) _ _ _ h.1, fun x hx => ⟨sl_setCells (fun b' off n c e => by have := hf.2 x hx b' zX; omega) _ _ _ (h.2 x hx).at_, (h.2 x hx).pc⟩⟩
structure CK (cb : Nat) (room : Int) (w wr : World) (v : Value) (zs : List BlkD) (pu st : Int) : Prop where
  at_ : At wr cb 0 [.int .i64 room, v, .int .i64 pu, .int .i64 st]
  frz : ∀ o, wr.frozen? ⟨cb, o, none⟩ = false
  blks : Blks wr v zs
  ins : ∀ x ∈ zs, x.ins.length ≤ 16
  len : (zs.length : Int) ≤ room
  dis : (pcs zs).Nodup
  bel : Below w.heap.size w wr
  lo : w.heap.size ≤ cb
  hi : cb < wr.heap.size
section
variable {cb : Nat} {room : Int} {w wr w' : World} {v v' : Value} {zs zs' : List BlkD} {pu st pu' st' : Int}
theorem CK.below (h : CK cb room w wr v zs pu st) (hb : Below wr.heap.size wr w') : CK cb room w w' v zs pu st :=
  ⟨h.at_.below hb, fun o => (hb.frozen (p := ⟨cb, o, none⟩) h.hi).trans (h.frz o), h.blks.below hb, h.ins, h.len, h.dis, h.bel.trans (hb.mono h.bel.size), h.lo, Nat.lt_of_lt_of_le h.hi hb.size⟩
theorem CK.there (h : CK cb room w wr v zs pu st) : wr.there cb 0 4 := fun j hj => ⟨by
  have := h.at_ j (by simpa using hj)
  rw [this]; rfl, h.frz _⟩
theorem CK.next (h : CK cb room w wr v zs pu st) (hb : Below wr.heap.size wr w') (hv : Blks w' v' zs') (hf : Far wr.heap.size v' zs') (hi : ∀ x ∈ zs', x.ins.length ≤ 16) (hl : (zs'.length : Int) ≤ room) (hd : (pcs zs').Nodup) :
    CK cb room w (w'.setCells cb 0 [.int .i64 room, v', .int .i64 pu', .int .i64 st']) v' zs' pu' st' :=
  have k := h.below hb
  ⟨at_set_all (vs := [.int .i64 room, v', .int .i64 pu', .int .i64 st']) k.there, fun o => by rw [World.frozen?_setCells]; exact k.frz o, blks_sets hv hf h.hi _ _, hi, hl, hd, below_setCells h.lo _ _ _ k.bel, h.lo, by rw [size_setCells]; exact k.hi⟩
end
def patch (m : List Int) (f : Int) (bs : List Int) : List Int := m.take f.toNat ++ bs ++ m.drop (f.toNat + bs.length)
def reset1 (p : Int × Int) (hs : List Hart) : List Hart := hs.set p.1.toNat { (hs.getD p.1.toNat hart0) with held := true, heldAt := p.2 }
def resets : List (Int × Int) → List Hart → List Hart
  | [], hs => hs
  | p :: r, hs => resets r (reset1 p hs)
def backOne (u : UndoD) (m : Mach) : Mach := ⟨patch m.mem u.frm u.bytes, resets u.lost (m.harts.set u.hart.toNat u.was)⟩
def backL (us : List UndoD) (m : Mach) : Mach := us.foldr backOne m
def inH (m : Mach) (k : Int) : Bool := decide (0 ≤ k) && decide (k < m.harts.length)
def fitsU (m : Mach) (u : UndoD) : Bool := u.lost.all (fun p => inH m p.1) && (inH m u.hart && u.was.ok && decide (u.frm + u.bytes.length ≤ m.mem.length))
def backS (m : Mach) (us : List UndoD) (steps : Int) : Mach × Int :=
  if wrong m [] = 0 then (if us.all (fitsU m) = true then (if steps < 0 ∨ (us.length : Int) < steps then (⟨[], []⟩, 3) else (backL (us.drop (us.length - steps.toNat)) m, 0)) else (⟨[], []⟩, 2)) else (⟨[], []⟩, 2)
theorem resets_append : ∀ (a b : List (Int × Int)) (hs : List Hart), resets (a ++ b) hs = resets b (resets a hs)
  | [], _, _ => rfl
  | p :: r, b, hs => resets_append r b (reset1 p hs)
theorem reset1_len (p : Int × Int) (hs : List Hart) : (reset1 p hs).length = hs.length := List.length_set
theorem resets_len : ∀ (a : List (Int × Int)) (hs : List Hart), (resets a hs).length = hs.length
  | [], _ => rfl
  | p :: r, hs => (resets_len r (reset1 p hs)).trans (reset1_len p hs)
theorem patch_len {m : List Int} {f : Int} {bs : List Int} (h0 : 0 ≤ f) (h : f + bs.length ≤ m.length) : (patch m f bs).length = m.length := by
  unfold patch
  simp only [List.length_append, List.length_take, List.length_drop]
  omega
structure UR (w : World) (v : Value) (us : List UndD) : Prop where
  row : Sl w v 41 us.length (us.flatMap ulist)
  wf : ∀ x ∈ us, x.d.was.Wf
  byt : ∀ x ∈ us, Sl w x.vb 1 x.d.bytes.length (x.d.bytes.map (Value.int .u8))
  los : ∀ x ∈ us, Sl w x.vl 2 x.d.lost.length (x.d.lost.flatMap llist)
  rng : ∀ x ∈ us, i64ok x.d.hart ∧ U32 x.d.frm ∧ Bytes x.d.bytes ∧ ∀ p ∈ x.d.lost, i64ok p.1 ∧ U32 p.2
theorem UR.below {w w' : World} {v : Value} {us : List UndD} (h : UR w v us) (hb : Below w.heap.size w w') : UR w' v us := ⟨h.row.below hb, h.wf, fun x hx => (h.byt x hx).below hb, fun x hx => (h.los x hx).below hb, h.rng⟩
theorem ulist_at {x : UndD} (wf : x.d.was.regs.length = 32) {w : World} {b o : Nat} (h : At w b o (ulist x)) : w.cell? ⟨b, o, none⟩ = some (.int .i64 x.d.hart) ∧ At w b (o + 1) (hlist x.d.was) ∧ w.cell? ⟨b, o + 38, none⟩ = some (.int .u32 x.d.frm) ∧ w.cell? ⟨b, o + 39, none⟩ = some x.vb ∧ w.cell? ⟨b, o + 40, none⟩ = some x.vl := by
  unfold ulist at h
  have h0 := h.get (j := 0) rfl
  have h1 : At w b (o + 1) (hlist x.d.was ++ [.int .u32 x.d.frm, x.vb, x.vl]) := fun j hj => by
    have := h (j + 1) (by simpa using hj)
    rw [show o + 1 + j = o + (j + 1) by omega, this]; rfl
  have h2 : At w b (o + 38) [.int .u32 x.d.frm, x.vb, x.vl] := by
    have := h1.append_right
    rw [hlist_len wf] at this
    exact this
  exact ⟨h0, h1.append_left, h2.get (j := 0) rfl, h2.get (j := 1) rfl, h2.get (j := 2) rfl⟩
theorem ulist_one {x : UndD} (hb : x.vb.oneCell' = true) (hl : x.vl.oneCell' = true) : ∀ u ∈ ulist x, u.oneCell' = true := by
  unfold ulist
  intro u hu
  simp only [List.mem_cons, List.mem_append, List.not_mem_nil, or_false] at hu
  rcases hu with rfl | hu | rfl | rfl | rfl
  · rfl
  · exact hlist_one x.d.was u (by simpa [hcells] using hu)
  · rfl
  · exact hb
  · exact hl
end Go.Proofs.Ytlfnddmncbkjaac.Fb
