import Derived.Test.YtlfnddmncbkjaaaZMA
import Derived.Test.YtlfnddmncbkjaaaZFbEnc3
import Derived.Deep.MidRow
import Derived.StillTailTactics
set_option linter.unusedVariables false
set_option linter.unusedSimpArgs false
set_option maxRecDepth 100000
set_option maxHeartbeats 4000000
namespace Go.Proofs.Ytlfnddmncbkjaaa.Fb
open Go.RowKit
theorem CoreD.Wf.set {d : CoreD} (wf : d.Wf) (r x : Int) (hx : U32 x) : (d.set r x).Wf := by
  refine ⟨?_, wf.m, wf.out, wf.fr, wf.tw, wf.mlen, wf.olen⟩
  show (d.h.setReg r x).Wf
  unfold Hart.setReg
  split
  · refine ⟨by simp [wf.h.len], fun y hy => ?_, wf.h.pc, wf.h.heldAt, wf.h.state, wf.h.cause⟩
    rcases List.mem_or_eq_of_mem_set hy with h | rfl
    · exact wf.h.regs _ h
    · exact hx
  · exact wf.h
theorem CoreD.Wf.setPc {d : CoreD} (wf : d.Wf) (x : Int) (hx : U32 x) : (d.setPc x).Wf :=
  ⟨⟨wf.h.len, wf.h.regs, hx, wf.h.heldAt, wf.h.state, wf.h.cause⟩, wf.m, wf.out, wf.fr, wf.tw, wf.mlen, wf.olen⟩
theorem CoreD.Wf.trap {d : CoreD} (wf : d.Wf) (c : Int) (hc : 1 ≤ c ∧ c ≤ 6) : (d.trap c).Wf :=
  ⟨⟨wf.h.len, wf.h.regs, wf.h.pc, wf.h.heldAt, ⟨(by decide : (-9223372036854775808 : Int) ≤ 2), (by decide : (2 : Int) ≤ 9223372036854775807)⟩, by show _ ≤ c ∧ c ≤ _; omega⟩, wf.m, wf.out, wf.fr, wf.tw, wf.mlen, wf.olen⟩
theorem CoreD.Wf.hold {d : CoreD} (wf : d.Wf) (b : Bool) (x : Int) (hx : U32 x) : (d.hold b x).Wf :=
  ⟨⟨wf.h.len, wf.h.regs, wf.h.pc, hx, wf.h.state, wf.h.cause⟩, wf.m, wf.out, wf.fr, wf.tw, wf.mlen, wf.olen⟩
theorem lay_bytes {l : List Int} (hb : Bytes l) (at_ w : Int) : ∀ m, Bytes (lay l at_ w m)
  | 0 => hb
  | m + 1 => fun x hx => by
    rcases List.mem_or_eq_of_mem_set hx with h | rfl
    · exact lay_bytes hb at_ w m x h
    · omega
theorem CoreD.Wf.put {d : CoreD} (wf : d.Wf) (op at_ x : Int) (ha : U32 at_) : (d.put op at_ x).Wf := by
  unfold CoreD.put
  split
  · rename_i hok
    have e : mStore d.m op at_ x = lay d.m at_ x (msize op).toNat := by unfold mStore; rw [if_pos hok]
    exact ⟨wf.h, by show Bytes (mStore d.m op at_ x); rw [e]; exact lay_bytes wf.m _ _ _, wf.out, ha, mod_lo _, by show (mStore d.m op at_ x).length ≤ _; rw [mStore_length]; exact wf.mlen, wf.olen⟩
  · exact wf
theorem CoreD.put_h (d : CoreD) (op at_ x : Int) : (d.put op at_ x).h = d.h := by unfold CoreD.put; split <;> rfl
theorem CoreD.put_out (d : CoreD) (op at_ x : Int) : (d.put op at_ x).out = d.out := by unfold CoreD.put; split <;> rfl
theorem CoreD.put_mlen (d : CoreD) (op at_ x : Int) : (d.put op at_ x).m.length = d.m.length := by unfold CoreD.put; split <;> simp [mStore_length]
theorem CoreD.Wf.none {d : CoreD} (wf : d.Wf) : d.none.Wf := ⟨wf.h, wf.m, wf.out, by show U32 0; unfold U32; omega, by show U32 0; unfold U32; omega, wf.mlen, wf.olen⟩
end Go.Proofs.Ytlfnddmncbkjaaa.Fb
namespace Go.Proofs.Ytlfnddmncbkjaaa.Fb
open Go.RowKit
theorem below_setCells {B : Nat} {a : World} {b : Nat} (hb : B ≤ b) : ∀ (vs : List Value) (o : Nat) (w : World), Below B a w → Below B a (w.setCells b o vs)
  | [], _, _, h => h
  | v :: r, o, w, h => below_setCells hb r (o + 1) _ (h.setCell hb v)
theorem sl_setCells {v : Value} {s n : Nat} {xs : List Value} {b : Nat} (hne : ∀ b' off n c, v = .slice (some ⟨b', off, none⟩) n c → b ≠ b') : ∀ (vs : List Value) (o : Nat) (w : World), Sl w v s n xs → Sl (w.setCells b o vs) v s n xs
  | [], _, _, h => h
  | u :: r, o, w, h => sl_setCells hne r (o + 1) _ (h.set_other hne u)
theorem there_at {w : World} {b o n : Nat} {xs : List Value} (h : At w b o xs) (hn : xs.length = n) (hf : ∀ o, w.frozen? ⟨b, o, none⟩ = false) : w.there b o n := fun j hj => by
  have h1 := h j (by omega)
  exact ⟨by rw [h1]; rfl, hf _⟩
theorem load_setCells {P : Program} {w : World} {b o : Nat} {cs : Array Value} {ty : TypeId} {d : TypeDesc} (ht : w.there b o cs.size) (hu : P.underlying ty = some d) (hd : d.isRow = true) (hi : (P.info? ty).map (·.size) = some cs.size) :
    (loadVar ty ⟨b, o, none⟩).run P (w.setCells b o cs.toList) = .ok (.agg cs) (w.setCells b o cs.toList) := by
  have hr := World.rangeAt_setCells_same w b o cs.toList (by simpa using ht)
  have := run_loadVar_mid (P := P) (w.setCells b o cs.toList) b o ty cs.toList d hr hu hd (by simpa using hi)
  simpa using this
theorem CoreAt.init {w : World} {hb ho : Nat} {vm : Value} {ty tC : TypeId} {h : Hart} {l : List Int} (hat : At w hb ho (hlist h)) (hfz : ∀ o, w.frozen? ⟨hb, o, none⟩ = false) (hlt : hb < w.heap.size)
    (hv : Ints .u8 w vm l) (hm : ∀ b off n c, vm = .slice (some ⟨b, off, none⟩) n c → b ≠ hb ∧ b < w.heap.size ∧ ∀ o, w.frozen? ⟨b, o, none⟩ = false) (hml : ∀ k, vm.ownBlock = some k → k < w.heap.size) :
    CoreAt w.heap.size hb ho vm ty (w.alloc (.cells #[.pointer (some ⟨hb, ho, none⟩), vm, .slice none 0 0, .int .u32 0, .int .u32 0] tC)) ⟨h, l, [], 0, 0⟩ := by
  have hB : Below w.heap.size w (w.alloc (.cells #[.pointer (some ⟨hb, ho, none⟩), vm, .slice none 0 0, .int .u32 0, .int .u32 0] tC)) := Below.alloc (Below.refl _ _) (Nat.le_refl _) _
  refine ⟨hlt, by simp, by simp, by simp, by simp, fun o => ?_, hat.below hB, fun o => ?_, hv.below hB, fun b off n c e => ?_, ⟨.slice none 0 0, by simp, World.ownsRow_nil _ _ _ _⟩, hml⟩
  · unfold World.frozen?; rw [heap_alloc_new]; simp
  · exact (hB.frozen (p := ⟨hb, o, none⟩) hlt).trans (hfz o)
  · obtain ⟨x1, x2, x3⟩ := hm b off n c e
    exact ⟨x2, x1, by simp; omega, fun o => (hB.frozen (p := ⟨b, o, none⟩) x2).trans (x3 o)⟩
def hart0 : Hart := ⟨List.replicate 32 0, 0, false, 0, 0, 0⟩
end Go.Proofs.Ytlfnddmncbkjaaa.Fb
namespace Go.Proofs.Ytlfnddmncbkjaaa.Fb
open Go.RowKit
structure Run (n : Nat) (d : CoreD) : Prop where
  ok : d.h.ok = true
  st : d.h.state = 0
  ml : d.m.length = n
  ol : d.out.length ≤ 1
structure Fin0 (d0 d : CoreD) : Prop where
  ok : d.h.ok = true
  ml : d.m.length = d0.m.length
  ol : d.out.length ≤ 1
  no : ¬ d.h.state = 0 → { d.h with state := d0.h.state, cause := d0.h.cause } = d0.h ∧ d.m = d0.m ∧ d.out = d0.out
theorem ok_parts {h : Hart} (hs : h.state = 0) : h.ok = true ↔ h.regs.getD 0 0 = 0 ∧ (h.held = true ∨ h.heldAt = 0) ∧ h.cause = 0 := by
  unfold Hart.ok
  rw [hs]
  simp only [Bool.and_eq_true, Bool.or_eq_true, beq_iff_eq, decide_eq_true_eq]
  constructor
  · rintro ⟨⟨h1, h2⟩, h3 | h3⟩
    · exact absurd h3.1.1 (by decide)
    · exact ⟨h1, h2, h3.2⟩
  · rintro ⟨h1, h2, h3⟩
    exact ⟨⟨h1, h2⟩, .inr ⟨.inl (by first | rfl | trivial), h3⟩⟩
theorem Run.set {n : Nat} {d : CoreD} (h : Run n d) (r x : Int) : Run n (d.set r x) := by
  refine ⟨?_, ?_, h.ml, h.ol⟩
  · have hs : (d.set r x).h.state = 0 := by unfold CoreD.set Hart.setReg; split <;> exact h.st
    rw [ok_parts hs]
    have h0 := (ok_parts h.st).1 h.ok
    unfold CoreD.set Hart.setReg
    split
    · refine ⟨?_, h0.2⟩
      show (d.h.regs.set r.toNat x).getD 0 0 = 0
      rw [List.getD, List.getElem?_set_ne (by omega)]
      exact h0.1
    · exact h0
  · unfold CoreD.set Hart.setReg; split <;> exact h.st
theorem Run.setPc {n : Nat} {d : CoreD} (h : Run n d) (x : Int) : Run n (d.setPc x) := ⟨h.ok, h.st, h.ml, h.ol⟩
theorem Run.hold {n : Nat} {d : CoreD} (h : Run n d) (b : Bool) (x : Int) (hx : b = true ∨ x = 0) : Run n (d.hold b x) := by
  refine ⟨?_, h.st, h.ml, h.ol⟩
  have h0 := (ok_parts h.st).1 h.ok
  exact (ok_parts (h := (d.hold b x).h) h.st).2 ⟨h0.1, hx, h0.2.2⟩
theorem Run.put {n : Nat} {d : CoreD} (h : Run n d) (op at_ x : Int) : Run n (d.put op at_ x) :=
  ⟨by rw [CoreD.put_h]; exact h.ok, by rw [CoreD.put_h]; exact h.st, by rw [CoreD.put_mlen]; exact h.ml, by rw [CoreD.put_out]; exact h.ol⟩
theorem Run.trap {d : CoreD} (h : Run d.m.length d) (c : Int) (hc : 1 ≤ c ∧ c ≤ 6) : Fin0 d (d.trap c) := by
  refine ⟨?_, rfl, h.ol, fun _ => ⟨rfl, rfl, rfl⟩⟩
  have h0 := (ok_parts h.st).1 h.ok
  unfold Hart.ok CoreD.trap Hart.trap
  simp only [Bool.and_eq_true, Bool.or_eq_true, beq_iff_eq, decide_eq_true_eq]
  exact ⟨⟨h0.1, h0.2.1⟩, .inl ⟨⟨by first | rfl | trivial, hc.1⟩, hc.2⟩⟩
end Go.Proofs.Ytlfnddmncbkjaaa.Fb
namespace Go.Proofs.Ytlfnddmncbkjaaa.Fb
open Go.RowKit
structure St where
  harts : List Hart
  mem : List Int
  out : List Int
  steps : Nat
def St.hart (s : St) (k : Nat) : Hart := s.harts.getD k hart0
def startM (m : Mach) : St := ⟨m.harts, m.mem, [], 0⟩
def CoreD.pre (o : List Int) (d : CoreD) : CoreD := { d with out := o ++ d.out }
structure St.Wf (s : St) : Prop where
  harts : ∀ h ∈ s.harts, h.Wf
  mem : Bytes s.mem
  mlen : s.mem.length ≤ 4096
  out : ∀ x ∈ s.out, U32 x
theorem hart0_wf : hart0.Wf := ⟨rfl, by intro x hx; have := List.eq_of_mem_replicate hx; subst this; exact ⟨by decide, by decide⟩, ⟨by decide, by decide⟩, ⟨by decide, by decide⟩, ⟨by decide, by decide⟩, ⟨by decide, by decide⟩⟩
theorem St.hart_at {s : St} {k : Nat} (h : k < s.harts.length) : s.hart k = s.harts[k] := by
  unfold St.hart; rw [List.getD, List.getElem?_eq_getElem h]; rfl
theorem St.Wf.hart {s : St} (h : s.Wf) (k : Nat) : (s.hart k).Wf := by
  by_cases hk : k < s.harts.length
  · rw [St.hart_at hk]; exact h.harts _ (List.getElem_mem hk)
  · unfold St.hart; rw [List.getD, List.getElem?_eq_none (by omega)]; exact hart0_wf
theorem St.Wf.core {s : St} (h : s.Wf) (k : Nat) : (⟨s.hart k, s.mem, [], 0, 0⟩ : CoreD).Wf :=
  ⟨h.hart k, h.mem, by simp, (⟨by decide, by decide⟩ : U32 0), (⟨by decide, by decide⟩ : U32 0), (by show s.mem.length ≤ _; have := h.mlen; omega), by simp⟩
theorem wrong_parts {m : Mach} {l : List (Int × Int)} (h : wrong m l = 0) : m.mem.length ≤ 4096 ∧ 1 ≤ m.harts.length ∧ m.harts.length ≤ 4 ∧ (∀ x ∈ m.harts, x.ok = true) ∧ l.length ≤ 300 ∧ ∀ p ∈ l, 0 ≤ p.1 ∧ p.1 < m.harts.length ∧ 0 ≤ p.2 ∧ p.2 ≤ 400 := by
  unfold wrong at h
  split at h
  · cases h
  split at h
  · cases h
  split at h
  · cases h
  split at h
  · cases h
  rename_i h1 h2 h3 h4
  refine ⟨by omega, by omega, by omega, fun x hx => ?_, by omega, fun p hp => ?_⟩
  · cases e : x.ok with
    | true => rfl
    | false => exact absurd (List.any_eq_true.2 ⟨x, hx, by simp [e]⟩) h2
  · have : badPick m.harts.length p = false := by
      cases e : badPick m.harts.length p with
      | false => rfl
      | true => exact absurd (List.any_eq_true.2 ⟨p, hp, e⟩) h4
    unfold badPick at this
    simp only [Bool.or_eq_false_iff, decide_eq_false_iff_not] at this
    omega
end Go.Proofs.Ytlfnddmncbkjaaa.Fb
namespace Go.Proofs.Ytlfnddmncbkjaaa.Fb
open Go.RowKit
structure St.Good (s : St) : Prop where
  wf : s.Wf
  ok : ∀ h ∈ s.harts, h.ok = true
  ol : s.out.length ≤ s.steps
theorem St.Good.hart {s : St} (h : s.Good) (k : Nat) : (s.hart k).ok = true := by
  by_cases hk : k < s.harts.length
  · rw [St.hart_at hk]; exact h.ok _ (List.getElem_mem hk)
  · unfold St.hart; rw [List.getD, List.getElem?_eq_none (by omega)]; rfl
def St.mach (s : St) : Mach := ⟨s.mem, s.harts⟩
def St.pre (o : List Int) (n : Nat) (s : St) : St := ⟨s.harts, s.mem, o ++ s.out, n + s.steps⟩
end Go.Proofs.Ytlfnddmncbkjaaa.Fb
namespace Go.Proofs.Ytlfnddmncbkjaaa.Fb
open Go.RowKit
abbrev Rd := List Int × Bool
theorem Bytes.drop {l : List Int} (h : Bytes l) (n : Nat) : Bytes (l.drop n) := fun x hx => h x (List.mem_of_mem_drop hx)
theorem Bytes.take {l : List Int} (h : Bytes l) (n : Nat) : Bytes (l.take n) := fun x hx => h x (List.mem_of_mem_take hx)
section
variable {a : List Int × Rd}
end
end Go.Proofs.Ytlfnddmncbkjaaa.Fb
namespace Go.Proofs.Ytlfnddmncbkjaaa.Fb
open Go.RowKit
theorem owns_block {B : Nat} {e : TypeId} {k : Nat} {v : Value} {n : Nat} {xs : List Value} {w w' : World} (h : w.ownsRow B e k v n xs) (hb : ∀ g, v.ownBlock = some g → w'.heap[g]? = w.heap[g]?) : w'.ownsRow B e k v n xs := by
  obtain ⟨h1, h2⟩ := h
  refine ⟨h1, ?_⟩
  rcases h2 with ⟨rfl, rfl⟩ | ⟨g, cap, cur, rfl, hB, hh, h3⟩
  · exact .inl ⟨rfl, rfl⟩
  · exact .inr ⟨g, cap, cur, rfl, hB, (hb g rfl).trans hh, h3⟩
theorem cell_block {w w' : World} {b : Nat} (h : w'.heap[b]? = w.heap[b]?) (o : Nat) : w'.cell? ⟨b, o, none⟩ = w.cell? ⟨b, o, none⟩ := World.cell?_of_block (a := ⟨b, o, none⟩) h
theorem frozen_block {w w' : World} {b : Nat} (h : w'.heap[b]? = w.heap[b]?) (o : Nat) : w'.frozen? ⟨b, o, none⟩ = w.frozen? ⟨b, o, none⟩ := World.frozen?_of_block (a := ⟨b, o, none⟩) h
theorem sl_block {w w' : World} {v : Value} {s n : Nat} {xs : List Value} (h : Sl w v s n xs) (hb : ∀ g, v.ownBlock = some g → w'.heap[g]? = w.heap[g]?) : Sl w' v s n xs := by
  obtain ⟨h1, ao, cap, h2, h3, h4, h5, h6⟩ := h
  refine ⟨h1, ao, cap, h2, h3, h4, h5, fun a ha hx => ⟨(h6 a ha hx).1, ?_⟩⟩
  obtain ⟨b, off, sp⟩ := a
  have h7 := h6 _ ha hx
  have hs := h7.1
  simp only at hs
  subst hs
  intro j hj
  exact (cell_block (hb b (by rw [h2, ha]; rfl)) _).trans (h7.2 j hj)
theorem At.flat {α : Type} {w : World} {b : Nat} (f : α → List Value) (s : Nat) : ∀ {l : List α} {off : Nat}, (∀ x ∈ l, (f x).length = s) → (∀ i (h : i < l.length), At w b (off + i * s) (f l[i])) → At w b off (l.flatMap f)
  | [], _, _, _ => fun j hj => by simp at hj
  | x :: r, off, hf, h => by
    rw [List.flatMap_cons]
    have hx := hf x (by simp)
    have h0 := h 0 (by simp)
    rw [Nat.zero_mul, Nat.add_zero] at h0
    refine At.append h0 ?_
    rw [hx]
    refine At.flat f s (fun y hy => hf y (by simp [hy])) (fun i hi => ?_)
    have := h (i + 1) (by simp; omega)
    rw [Nat.add_mul, Nat.one_mul] at this
    rw [show off + s + i * s = off + (i * s + s) by omega]
    exact this
theorem at_harts_set {w w' : World} {b : Nat} {hs : List Hart} {k : Nat} {h' : Hart} (ha : At w b 0 (hs.flatMap hlist)) (hl : ∀ h ∈ hs, (hlist h).length = 37) (hl' : (hlist h').length = 37)
    (hk : At w' b (k * 37) (hlist h')) (hc : ∀ o, (o < k * 37 ∨ k * 37 + 37 ≤ o) → w'.cell? ⟨b, o, none⟩ = w.cell? ⟨b, o, none⟩) : At w' b 0 ((hs.set k h').flatMap hlist) := by
  refine At.flat hlist 37 (fun x hx => ?_) (fun i hi => ?_)
  · rcases List.mem_or_eq_of_mem_set hx with hx | rfl
    · exact hl x hx
    · exact hl'
  · rw [List.length_set] at hi
    rw [List.getElem_set]
    split
    · rename_i e; subst e; rw [Nat.zero_add]; exact hk
    · rename_i e
      have h1 := At.elem hlist 37 hl ha i hi
      intro j hj
      rw [hl _ (List.getElem_mem hi)] at hj
      rw [hc _ (by omega)]
      exact h1 j (by rw [hl _ (List.getElem_mem hi)]; exact hj)
theorem at_hart {w : World} {b : Nat} {hs : List Hart} {k : Nat} (ha : At w b 0 (hs.flatMap hlist)) (hl : ∀ h ∈ hs, (hlist h).length = 37) (hk : k < hs.length) : At w b (k * 37) (hlist hs[k]) := by
  have := At.elem hlist 37 hl ha k hk
  rw [Nat.zero_add] at this
  exact this
structure Bd (bp bh hc : Nat) (vm vo : Value) (ty : TypeId) (w : World) (s : St) : Prop where
  b1 : bh < bp
  c0 : w.cell? ⟨bp, 0, none⟩ = some vm
  c1 : w.cell? ⟨bp, 1, none⟩ = some (.slice (some ⟨bh, 0, none⟩) s.harts.length hc)
  c2 : w.cell? ⟨bp, 2, none⟩ = some vo
  c3 : w.cell? ⟨bp, 3, none⟩ = some (.int .i64 s.steps)
  frz : ∀ o, w.frozen? ⟨bp, o, none⟩ = false
  harts : At w bh 0 (s.harts.flatMap hlist)
  hlt : bh < w.heap.size
  hfz : ∀ o, w.frozen? ⟨bh, o, none⟩ = false
  bytes : Ints .u8 w vm s.mem
  mfz : ∀ b off n c, vm = .slice (some ⟨b, off, none⟩) n c → b < w.heap.size ∧ ∀ o, w.frozen? ⟨b, o, none⟩ = false
  mlt : ∀ k, vm.ownBlock = some k → k < bp ∧ k ≠ bh
  own : w.ownsRow (bp + 1) ty 1 vo s.out.length (s.out.map (Value.int .u32))
  hcap : s.harts.length ≤ hc ∧ hc ≤ maxLen
structure Wk (bp bh hc cp k : Nat) (vm vo : Value) (ty : TypeId) (o0 o : List Int) (fr tw : Int) (w : World) (s : St) : Prop where
  core : CoreAt cp bh (k * 37) vm ty w ⟨s.hart k, s.mem, o, fr, tw⟩
  b1 : bh < bp
  b2 : bp < cp
  c0 : w.cell? ⟨bp, 0, none⟩ = some vm
  c1 : w.cell? ⟨bp, 1, none⟩ = some (.slice (some ⟨bh, 0, none⟩) s.harts.length hc)
  c2 : w.cell? ⟨bp, 2, none⟩ = some vo
  c3 : w.cell? ⟨bp, 3, none⟩ = some (.int .i64 s.steps)
  frz : ∀ o, w.frozen? ⟨bp, o, none⟩ = false
  harts : At w bh 0 (s.harts.flatMap hlist)
  mlt : ∀ k, vm.ownBlock = some k → k < bp ∧ k ≠ bh
  own : w.ownsRow (bp + 1) ty 1 vo o0.length (o0.map (Value.int .u32))
  vlt : ∀ g, vo.ownBlock = some g → g < cp
  kl : k < s.harts.length
  hcap : s.harts.length ≤ hc ∧ hc ≤ maxLen
theorem Bd.begin {w : World} {m : Mach} {vm vh : Value} {B1 B2 : Nat} {t1 t2 tB ty : TypeId} (h1 : w.ownsRow B1 t1 1 vm m.mem.length (m.mem.map (Value.int .u8))) (h2 : w.ownsRow B2 t2 37 vh m.harts.length (m.harts.flatMap hlist))
    (hne : ∀ k, vm.ownBlock = some k → vh.ownBlock ≠ some k) (hl : 1 ≤ m.harts.length) :
    ∃ bh hc, vh = .slice (some ⟨bh, 0, none⟩) m.harts.length hc ∧ B2 ≤ bh ∧ Bd w.heap.size bh hc vm (.slice none 0 0) ty (w.alloc (.cells #[vm, vh, .slice none 0 0, .int .i64 0] tB)) (startM m) := by
  rcases owns_open h2 with ⟨_, e, _⟩ | ⟨g, cap, rfl, hB, hg, hn, hm, hat, hf⟩
  · omega
  have hb : Below w.heap.size w (w.alloc (.cells #[vm, .slice (some ⟨g, 0, none⟩) m.harts.length cap, .slice none 0 0, .int .i64 0] tB)) := Below.alloc (Below.refl _ _) (Nat.le_refl _) _
  refine ⟨g, cap, rfl, hB, hg, by simp, by simp [startM], by simp, by simp [startM], fun o => by unfold World.frozen?; rw [heap_alloc_new]; simp, hat.below hb, Nat.lt_of_lt_of_le hg hb.size, fun o => (hb.frozen (p := ⟨g, o, none⟩) hg).trans (hf o), (owns_sl h1).below hb, fun b off n c e => ?_, fun k e => ?_, World.ownsRow_nil _ _ _ _, hn, hm⟩
  · rcases owns_open h1 with ⟨rfl, _⟩ | ⟨g1, c1, rfl, _, hg1, _, _, _, hf1⟩
    · cases e
    · cases e
      exact ⟨Nat.lt_of_lt_of_le hg1 hb.size, fun o => (hb.frozen (p := ⟨b, o, none⟩) hg1).trans (hf1 o)⟩
  · exact ⟨(h1.lt k e).2, fun e2 => hne k e (by rw [e2]; rfl)⟩
section
variable {bp bh hc cp k : Nat} {vm vo : Value} {ty : TypeId} {o0 o : List Int} {fr tw : Int} {w w' : World} {s : St}
theorem CoreAt.move {hb ho : Nat} {d : CoreD} {h' : Hart} (h : CoreAt cp hb ho vm ty w d) (hcp : w'.heap[cp]? = w.heap[cp]?) (hvm : ∀ k, vm.ownBlock = some k → w'.heap[k]? = w.heap[k]?) (hrow : ∀ k, cp < k → k < w.heap.size → w'.heap[k]? = w.heap[k]?)
    (hsz : w.heap.size ≤ w'.heap.size) (hat : At w' hb ho (hlist h')) (hfz : ∀ o, w'.frozen? ⟨hb, o, none⟩ = false) : CoreAt cp hb ho vm ty w' { d with h := h' } := by
  refine ⟨h.hbl, (cell_block hcp _).trans h.ptr, (cell_block hcp _).trans h.mem, (cell_block hcp _).trans h.fr, (cell_block hcp _).trans h.tw, fun o => (frozen_block hcp o).trans (h.frz o), hat, hfz, sl_block h.bytes hvm, fun b off n c e => ?_, ?_, h.mlt⟩
  · obtain ⟨x1, x2, x3, x4⟩ := h.mfz b off n c e
    exact ⟨x1, x2, by omega, fun o => (frozen_block (hvm b (by rw [e]; rfl)) o).trans (x4 o)⟩
  · obtain ⟨vo', y1, y2⟩ := h.row
    refine ⟨vo', (cell_block hcp _).trans y1, owns_block y2 (fun g hg => ?_)⟩
    have := y2.lt g hg
    exact hrow g (by omega) this.2
theorem Bd.lt (h : Bd bp bh hc vm vo ty w s) : bp < w.heap.size := lt_of_cell h.c0
theorem Bd.below (h : Bd bp bh hc vm vo ty w s) (hb : Below w.heap.size w w') : Bd bp bh hc vm vo ty w' s := by
  have hl := h.lt
  have e := hb.block bp hl
  have eh := hb.block bh h.hlt
  refine ⟨h.b1, (cell_block e _).trans h.c0, (cell_block e _).trans h.c1, (cell_block e _).trans h.c2, (cell_block e _).trans h.c3, fun o => (frozen_block e o).trans (h.frz o), h.harts.below hb, Nat.lt_of_lt_of_le h.hlt hb.size, fun o => (frozen_block eh o).trans (h.hfz o), h.bytes.below hb, fun b off n c e => ?_, h.mlt, owns_below h.own hb, h.hcap⟩
  obtain ⟨x1, x2⟩ := h.mfz b off n c e
  exact ⟨Nat.lt_of_lt_of_le x1 hb.size, fun o => (frozen_block (hb.block b x1) o).trans (x2 o)⟩
theorem Wk.clt (h : Wk bp bh hc cp k vm vo ty o0 o fr tw w s) : cp < w.heap.size := h.core.lt
theorem Wk.below (h : Wk bp bh hc cp k vm vo ty o0 o fr tw w s) (hb : Below w.heap.size w w') : Wk bp bh hc cp k vm vo ty o0 o fr tw w' s := by
  have e := hb.block bp (Nat.lt_trans h.b2 h.clt)
  exact ⟨h.core.below hb, h.b1, h.b2, (cell_block e _).trans h.c0, (cell_block e _).trans h.c1, (cell_block e _).trans h.c2, (cell_block e _).trans h.c3, fun o => (frozen_block e o).trans (h.frz o), h.harts.below hb, h.mlt, owns_below h.own hb, h.vlt, h.kl, h.hcap⟩
theorem Wk.drewN (h : Wk bp bh hc cp k vm vo ty o0 o fr tw w s) (n : Nat) : Wk bp bh hc cp k vm vo ty o0 o fr tw (w.drewN n) s := h.below (below_drewN (Below.refl _ _) _)
theorem Wk.tick (h : Wk bp bh hc cp k vm vo ty o0 o fr tw w s) (n : Nat) : Wk bp bh hc cp k vm vo ty o0 o fr tw (w.setCell ⟨bp, 3, none⟩ (.int .i64 n)) { s with steps := n } := by
  have b1 := h.b1
  have b2 := h.b2
  have hbk : ∀ j, j ≠ bp → (w.setCell ⟨bp, 3, none⟩ (.int .i64 n)).heap[j]? = w.heap[j]? := fun j hj => Below.heap_setCell _ _ _ _ (by show j ≠ bp; exact hj)
  have hc : ∀ j, j ≠ 3 → (w.setCell ⟨bp, 3, none⟩ (.int .i64 n)).cell? ⟨bp, j, none⟩ = w.cell? ⟨bp, j, none⟩ := fun j hj => World.cell?_setCell_other _ _ _ _ (by intro e; injection e with _ e2; omega)
  refine ⟨h.core.move (h' := s.hart k) (hbk cp (by omega)) (fun g hg => hbk g (by have := h.mlt g hg; omega)) (fun g hg _ => hbk g (by omega)) (by simp) (h.core.hart.set_other (by show bp ≠ bh; omega) _) (fun o => (World.frozen?_setCell _ _ _ _).trans (h.core.hfz o)), h.b1, h.b2, (hc 0 (by omega)).trans h.c0, (hc 1 (by omega)).trans h.c1, (hc 2 (by omega)).trans h.c2, World.cell?_setCell_same _ _ _ h.c3, fun o => (World.frozen?_setCell _ _ _ _).trans (h.frz o), h.harts.set_other (by show bp ≠ bh; omega) _, h.mlt, owns_block h.own (fun g hg => hbk g (by have := h.own.lt g hg; omega)), h.vlt, h.kl, h.hcap⟩
theorem Wk.lost {hs : List Hart} (h : Wk bp bh hc cp k vm vo ty o0 o fr tw w s) (wf : ∀ h ∈ hs, h.Wf) (hl : hs.length = s.harts.length) (hk : ∀ h' : k < hs.length, hs[k] = s.hart k) (ha : At w' bh 0 (hs.flatMap hlist)) (hg : Chg (fun p => p.block = bh) w w') :
    Wk bp bh hc cp k vm vo ty o0 o fr tw w' { s with harts := hs } := by
  have b1 := h.b1
  have b2 := h.b2
  have hlt := h.clt
  have kl : k < hs.length := by rw [hl]; exact h.kl
  have hbk : ∀ j, j < w.heap.size → j ≠ bh → w'.heap[j]? = w.heap[j]? := fun j hj hn => hg.block j hj (fun o e => hn e)
  have e := hbk bp (by omega) (by omega)
  have ek : (⟨hs, s.mem, s.out, s.steps⟩ : St).hart k = s.hart k := (St.hart_at kl).trans (hk kl)
  have hat := at_hart ha (fun x hx => hlist_length (wf x hx)) kl
  rw [hk kl] at hat
  refine ⟨by
      show CoreAt cp bh (k * 37) vm ty w' ⟨(⟨hs, s.mem, s.out, s.steps⟩ : St).hart k, s.mem, o, fr, tw⟩
      rw [ek]
      exact h.core.move (h' := s.hart k) (hbk cp hlt (by omega)) (fun g hg => hbk g (by have := h.mlt g hg; omega) (h.mlt g hg).2) (fun g hg hg2 => hbk g hg2 (by omega)) hg.size hat (fun o => (hg.frozen ⟨bh, o, none⟩ (by show bh < _; omega)).trans (h.core.hfz o)), h.b1, h.b2, (cell_block e _).trans h.c0, (cell_block e _).trans (by rw [h.c1, ← hl]), (cell_block e _).trans h.c2, (cell_block e _).trans h.c3, fun o => (frozen_block e o).trans (h.frz o),
    ha, h.mlt, owns_block h.own (fun g hg' => ?_), h.vlt, kl, by rw [show ({ s with harts := hs } : St).harts.length = s.harts.length from hl]; exact h.hcap⟩
  have := h.own.lt g hg'
  exact hbk g this.2 (by omega)
end
end Go.Proofs.Ytlfnddmncbkjaaa.Fb
namespace Go.Proofs.Ytlfnddmncbkjaaa.Fb
open Go.RowKit
structure RdAt (rp : Nat) (w : World) (s : Rd) : Prop where
  v : ∃ v, w.cell? ⟨rp, 0, none⟩ = some v ∧ Ints .u8 w v s.1 ∧ (s.1 ≠ [] → ∀ k, v.ownBlock = some k → k < rp)
  bad : w.cell? ⟨rp, 1, none⟩ = some (.bool s.2)
  frz : ∀ o, w.frozen? ⟨rp, o, none⟩ = false
  lt : rp < w.heap.size
theorem RdAt.below {rp : Nat} {w w' : World} {s : Rd} (h : RdAt rp w s) (hb : Below w.heap.size w w') : RdAt rp w' s := by
  obtain ⟨v, h1, h2, h3⟩ := h.v
  have e := hb.block rp h.lt
  exact ⟨⟨v, (cell_block e _).trans h1, h2.below hb, h3⟩, (cell_block e _).trans h.bad, fun o => (frozen_block e o).trans (h.frz o), Nat.lt_of_lt_of_le h.lt hb.size⟩
theorem ints_set {k : IntKind} {w : World} {v : Value} {l : List Int} {rp : Nat} (h : Ints k w v l) (hn : l ≠ [] → ∀ k, v.ownBlock = some k → k < rp) {p : Addr} (hp : rp ≤ p.block) (u : Value) : Ints k (w.setCell p u) v l := by
  by_cases hl : l = []
  · subst hl
    obtain ⟨h1, ao, cap, h2, h3, h4, h5, h6⟩ := h
    exact ⟨h1, ao, cap, h2, h3, h4, h5, fun a _ hx => absurd rfl hx⟩
  · exact Sl.set_other h (fun b off n c e => by have := hn hl b (by rw [e]; rfl); omega) u
theorem Ints.cut {k : IntKind} {w : World} {ao : Option Addr} {cap : Nat} {l : List Int} (h : Ints k w (.slice ao l.length cap) l) (n : Nat) (hn : n ≤ l.length) : Ints k w (.slice ao n cap) (l.take n) := by
  obtain ⟨h1, ao', cap', h2, h3, h4, h5, h6⟩ := h
  cases h2
  refine ⟨by simp, ao, cap, by rw [List.length_take, Nat.min_eq_left hn], by rw [List.length_take]; omega, h4, h5, fun a ha hx => ?_⟩
  have hne : l.map (Value.int k) ≠ [] := by intro e; rw [List.map_eq_nil_iff] at e; subst e; simp at hx
  obtain ⟨h7, h8⟩ := h6 a ha hne
  refine ⟨h7, fun j hj => ?_⟩
  rw [List.length_map, List.length_take] at hj
  rw [h8 j (by rw [List.length_map]; omega)]
  simp
theorem Ints.rest {k : IntKind} {w : World} {b off cap : Nat} {l : List Int} (h : Ints k w (.slice (some ⟨b, off, none⟩) l.length cap) l) (n : Nat) (hn : n ≤ l.length) : Ints k w (.slice (some ⟨b, off + n, none⟩) (l.length - n) (cap - n)) (l.drop n) := by
  obtain ⟨h1, ao', cap', h2, h3, h4, h5, h6⟩ := h
  cases h2
  refine ⟨by simp, _, cap - n, by rw [List.length_drop], by rw [List.length_drop]; omega, by unfold maxLen at *; omega, (by intro e; cases e), fun a ha hx => ?_⟩
  cases ha
  have hne : l.map (Value.int k) ≠ [] := by intro e; rw [List.map_eq_nil_iff] at e; subst e; simp at hx
  obtain ⟨h7, h8⟩ := h6 _ rfl hne
  refine ⟨rfl, fun j hj => ?_⟩
  rw [List.length_map, List.length_drop] at hj
  have := h8 (n + j) (by rw [List.length_map]; omega)
  rw [show off + n + j = off + (n + j) by omega]
  rw [this]
  simp
end Go.Proofs.Ytlfnddmncbkjaaa.Fb
namespace Go.Proofs.Ytlfnddmncbkjaaa.Fb
open Go.RowKit
structure DidD where
  h : Hart
  vm : Value
  vo : Value
  fr : Int
  many : Int
def dtail (d : DidD) : List Value := [d.vm, d.vo, .int .u32 d.fr, .int .i64 d.many]
def dlist (d : DidD) : List Value := hlist d.h ++ dtail d
def dcells (d : DidD) : Array Value := (dlist d).toArray
def DidD.set (d : DidD) (r x : Int) : DidD := { d with h := d.h.setReg r x }
def DidD.trap (d : DidD) (c : Int) : DidD := { d with h := d.h.trap c }
structure DidD.Ok (d : DidD) : Prop where
  len : d.h.regs.length = 32
  m1 : d.vm.oneCell' = true
  o1 : d.vo.oneCell' = true
theorem hlist_len {h : Hart} (wf : h.regs.length = 32) : (hlist h).length = 37 := by simp [hlist, wf]
theorem dlist_len {d : DidD} (h : d.Ok) : (dlist d).length = 41 := by
  rw [dlist, List.length_append, hlist_len h.len]; rfl
theorem box_did (d : DidD) (w : World) (t : TypeId) : At (w.alloc (.cells (dcells d) t)) w.heap.size 0 (dlist d) := at_alloc w (dlist d) t (0, 0)
theorem results_c1 {P : Program} {fn : Func} {a : Tmp} {t : TypeId} (h : fn.results = #[.cell a t]) (tmps : Array Value) {p : Addr} {w : World} {v : Value} (hp : tmps.getD a undef = .pointer (some p)) (hl : (loadVar t p).run P w = .ok v w) :
    (results fn tmps).run P w = .ok v w := by
  have hp' : tmps[a]?.getD undef = .pointer (some p) := by rw [← hp]; simp
  simp [results, h, hp', hl, Sem.run_bind, asAddr]
theorem results_c1t {P : Program} {fn : Func} {a x : Tmp} {t : TypeId} (h : fn.results = #[.cell a t, .tmp x]) (tmps : Array Value) {p : Addr} {w : World} {v : Value} (hp : tmps.getD a undef = .pointer (some p)) (hl : (loadVar t p).run P w = .ok v w) :
    (results fn tmps).run P w = .ok (.tuple #[v, tmps.getD x undef]) w := by
  have hp' : tmps[a]?.getD undef = .pointer (some p) := by rw [← hp]; simp
  simp [results, h, hp', hl, Sem.run_bind, asAddr]
structure DBox (B R : Nat) (tD : TypeId) (w : World) (d : DidD) : Prop where
  at_ : At w B 0 (dlist d)
  frz : ∀ o, w.frozen? ⟨B, o, none⟩ = false
  there : w.there R 0 41
theorem DBox.begin {w : World} {tD : TypeId} {d : DidD} {z : Array Value} (hz : z.size = 41) : DBox w.heap.size (w.heap.size + 1) tD ((w.alloc (.cells (dcells d) tD)).alloc (.cells z tD)) d := by
  have hB : Below (w.heap.size + 1) (w.alloc (.cells (dcells d) tD)) ((w.alloc (.cells (dcells d) tD)).alloc (.cells z tD)) := Below.alloc (Below.refl _ _) (by simp) _
  refine ⟨(box_did d w tD).below (by have := hB; simpa using this), fun o => ?_, fun j hj => ?_⟩
  · rw [hB.frozen (p := ⟨w.heap.size, o, none⟩) (by show w.heap.size < _; omega)]
    unfold World.frozen?; rw [heap_alloc_new]; simp
  · have hn : ((w.alloc (.cells (dcells d) tD)).alloc (.cells z tD)).heap[w.heap.size + 1]? = some (.cells z tD (0, 0)) := by
      have := heap_alloc_new (w.alloc (.cells (dcells d) tD)) (.cells z tD)
      simpa using this
    have hj2 : 0 + j < z.size := by omega
    exact ⟨by unfold World.cell?; rw [hn]; simp; omega, by unfold World.frozen?; rw [hn]; simp⟩
theorem DBox.below {B R : Nat} {tD : TypeId} {w w' : World} {d : DidD} (h : DBox B R tD w d) (hB0 : B < w.heap.size) (hB : R < w.heap.size) (hb : Below w.heap.size w w') : DBox B R tD w' d :=
  ⟨h.at_.below hb, fun o => (hb.frozen (p := ⟨B, o, none⟩) hB0).trans (h.frz o), fun j hj => ⟨by rw [hb.cell (p := ⟨R, 0 + j, none⟩) hB]; exact (h.there j hj).1, by rw [hb.frozen (p := ⟨R, 0 + j, none⟩) hB]; exact (h.there j hj).2⟩⟩
theorem there_setCell {w : World} {b o n : Nat} (h : w.there b o n) (p : Addr) (hp : p.spot = none) (v : Value) : (w.setCell p v).there b o n := by
  obtain ⟨b', o', s⟩ := p
  simp only at hp
  subst hp
  have := World.there_setCells h b' o' [v]
  simpa [World.setCells] using this
theorem DBox.set {B R : Nat} {tD : TypeId} {w : World} {d d' : DidD} (h : DBox B R tD w d) (j : Nat) (v : Value) (hj : j < (dlist d).length) (hl : dlist d' = (dlist d).set j v) : DBox B R tD (w.setCell ⟨B, j, none⟩ v) d' :=
  ⟨by rw [hl]; have := h.at_.set j hj v; simpa using this, fun o => (World.frozen?_setCell _ _ _ _).trans (h.frz o), there_setCell h.there _ rfl _⟩
theorem DBox.get {B R : Nat} {tD : TypeId} {w : World} {d : DidD} (h : DBox B R tD w d) {j : Nat} {v : Value} (hj : (dlist d)[j]? = some v) : w.cell? ⟨B, j, none⟩ = some v := by
  have := h.at_.get hj
  simpa using this
theorem DBox.drewN {B R : Nat} {tD : TypeId} {w : World} {d : DidD} (h : DBox B R tD w d) (n : Nat) : DBox B R tD (w.drewN n) d := ⟨h.at_, h.frz, h.there⟩
theorem DidD.Ok.setReg {d : DidD} (h : d.Ok) (r x : Int) : (d.set r x).Ok := ⟨by unfold DidD.set Hart.setReg; split <;> simp [h.len], h.m1, h.o1⟩
theorem DBox.put {B R : Nat} {tD : TypeId} {w : World} {d d' : DidD} (h : DBox B R tD w d) (hd : d.Ok) (hd' : d'.Ok) : DBox B R tD (w.setCells B 0 (dcells d').toList) d' := by
  have ht : w.there B 0 (dcells d').toList.length := by
    have : (dcells d').toList.length = 41 := by simp [dcells, dlist_len hd']
    rw [this]
    exact there_at h.at_ (dlist_len hd) h.frz
  refine ⟨?_, fun o => by rw [World.frozen?_setCells]; exact h.frz o, World.there_setCells h.there _ _ _⟩
  have hr := World.rangeAt_setCells_same w B 0 (dcells d').toList ht
  intro j hj
  have := hr j (dlist d')[j] (by simp [dcells, hj])
  exact this
theorem DBox.other {B R : Nat} {tD : TypeId} {w : World} {d : DidD} (h : DBox B R tD w d) {p : Addr} (hp : p.block ≠ B) (hs : p.spot = none) (v : Value) : DBox B R tD (w.setCell p v) d :=
  ⟨h.at_.set_other hp v, fun o => (World.frozen?_setCell _ _ _ _).trans (h.frz o), there_setCell h.there _ hs _⟩
structure DidOf (w : World) (d : DidD) (c : CoreD) : Prop where
  h : d.h = c.h
  m : Ints .u8 w d.vm c.m
  o : Ints .u32 w d.vo c.out
  fr : d.fr = c.fr
  many : d.many = c.tw - c.fr
theorem DidOf.below {w w' : World} {d : DidD} {c : CoreD} (h : DidOf w d c) (hb : Below w.heap.size w w') : DidOf w' d c := ⟨h.h, h.m.below hb, h.o.below hb, h.fr, h.many⟩
theorem Ints.one {k : IntKind} {w : World} {v : Value} {l : List Int} (h : Ints k w v l) : v.oneCell' = true := by
  obtain ⟨ao, cap, rfl, _⟩ := h.open
  rfl
theorem DidOf.ok {w : World} {d : DidD} {c : CoreD} (h : DidOf w d c) (wf : c.Wf) : d.Ok := ⟨by rw [h.h]; exact wf.h.len, h.m.one, h.o.one⟩
theorem DidOf.set {w : World} {d : DidD} {c : CoreD} (h : DidOf w d c) (r x : Int) : DidOf w (d.set r x) (c.set r x) := ⟨by show d.h.setReg r x = c.h.setReg r x; rw [h.h], h.m, h.o, h.fr, h.many⟩
theorem DidOf.trap {w : World} {d : DidD} {c : CoreD} (h : DidOf w d c) (x : Int) : DidOf w (d.trap x) (c.trap x) := ⟨by show d.h.trap x = c.h.trap x; rw [h.h], h.m, h.o, h.fr, h.many⟩
theorem DidOf.setPc {w : World} {d : DidD} {c : CoreD} (h : DidOf w d c) (x : Int) : DidOf w { d with h := { d.h with pc := x } } (c.setPc x) := ⟨by show ({ d.h with pc := x } : Hart) = { c.h with pc := x }; rw [h.h], h.m, h.o, h.fr, h.many⟩
theorem DidOf.hold {w : World} {d : DidD} {c : CoreD} (h : DidOf w d c) (b : Bool) (x : Int) : DidOf w { d with h := { d.h with held := b, heldAt := x } } (c.hold b x) := ⟨by show ({ d.h with held := b, heldAt := x } : Hart) = { c.h with held := b, heldAt := x }; rw [h.h], h.m, h.o, h.fr, h.many⟩
theorem DidOf.put {w : World} {d : DidD} {c : CoreD} {v : Value} {op at_ x : Int} (h : DidOf w d c) (hq : mStoreOk c.m op at_ = true) (ha : U32 at_) (hl : c.m.length ≤ 4096) (hv : Ints .u8 w v (mStore c.m op at_ x)) :
    DidOf w { d with vm := v, fr := at_, many := msize op } (c.put op at_ x) := by
  have hs : 0 < msize op ∧ at_ + msize op ≤ c.m.length := by simp [mStoreOk, there] at hq; omega
  have ha1 := ha.1
  have e : c.put op at_ x = { c with m := mStore c.m op at_ x, fr := at_, tw := (at_ + msize op) % 4294967296 } := by unfold CoreD.put; rw [if_pos hq]
  rw [e]
  refine ⟨h.h, hv, h.o, rfl, ?_⟩
  show msize op = (at_ + msize op) % 4294967296 - at_
  omega
theorem DidOf.setCells {w : World} {d : DidD} {c : CoreD} (h : DidOf w d c) {R : Nat} (h1 : ∀ b off n c, d.vm = .slice (some ⟨b, off, none⟩) n c → R ≠ b) (h2 : ∀ b off n c, d.vo = .slice (some ⟨b, off, none⟩) n c → R ≠ b) (o : Nat) (vs : List Value) : DidOf (w.setCells R o vs) d c :=
  ⟨h.h, sl_setCells h1 _ _ _ h.m, sl_setCells h2 _ _ _ h.o, h.fr, h.many⟩
theorem size_setCells (b : Nat) : ∀ (vs : List Value) (o : Nat) (w : World), (w.setCells b o vs).heap.size = w.heap.size
  | [], _, _ => rfl
  | v :: r, o, w => by rw [World.setCells, size_setCells b r]; simp
end Go.Proofs.Ytlfnddmncbkjaaa.Fb
namespace Go.Proofs.Ytlfnddmncbkjaaa.Fb
open Go.RowKit
structure HB (B R : Nat) (w : World) (h : Hart) : Prop where
  at_ : At w B 0 (hlist h)
  frz : ∀ o, w.frozen? ⟨B, o, none⟩ = false
  there : w.there R 0 37
  len : h.regs.length = 32
theorem HB.lt {B R : Nat} {w : World} {h : Hart} (k : HB B R w h) : B < w.heap.size := by
  have := k.at_ 0 (by rw [hlist_len k.len]; omega)
  exact lt_of_cell this
theorem HB.set {B R : Nat} {w : World} {h h' : Hart} (k : HB B R w h) (j : Nat) (v : Value) (hj : j < 37) (hl : hlist h' = (hlist h).set j v) (hl2 : h'.regs.length = 32) : HB B R (w.setCell ⟨B, j, none⟩ v) h' :=
  ⟨by rw [hl]; have := k.at_.set j (by rw [hlist_len k.len]; exact hj) v; simpa using this, fun o => (World.frozen?_setCell _ _ _ _).trans (k.frz o), there_setCell k.there _ rfl _, hl2⟩
theorem HB.get {B R : Nat} {w : World} {h : Hart} (k : HB B R w h) {j : Nat} {v : Value} (hj : (hlist h)[j]? = some v) : w.cell? ⟨B, j, none⟩ = some v := by
  have := k.at_.get hj
  simpa using this
theorem there_block {w w' : World} {R n : Nat} (h : w.there R 0 n) (e : w'.heap[R]? = w.heap[R]?) : w'.there R 0 n := fun j hj => ⟨by rw [cell_block e]; exact (h j hj).1, by rw [frozen_block e]; exact (h j hj).2⟩
theorem HB.move {B R : Nat} {w w' : World} {h : Hart} (k : HB B R w h) (e1 : w'.heap[B]? = w.heap[B]?) (e2 : w'.heap[R]? = w.heap[R]?) : HB B R w' h :=
  ⟨fun j hj => (cell_block e1 _).trans (k.at_ j hj), fun o => (frozen_block e1 o).trans (k.frz o), there_block k.there e2, k.len⟩
theorem HB.begin (w : World) (t : TypeId) : HB (w.heap.size + 1) w.heap.size ((w.alloc (.cells (hcells hart0) t)).alloc (.cells (hcells hart0) t)) hart0 := by
  have hb : Below (w.heap.size + 1) (w.alloc (.cells (hcells hart0) t)) ((w.alloc (.cells (hcells hart0) t)).alloc (.cells (hcells hart0) t)) := Below.alloc (Below.refl _ _) (by simp) _
  have hz : (hcells hart0).size = 37 := rfl
  refine ⟨?_, fun o => ?_, fun j hj => ?_, rfl⟩
  · have := at_alloc (w.alloc (.cells (hcells hart0) t)) (hlist hart0) t (0, 0)
    rw [World.size_alloc] at this
    exact this
  · have := heap_alloc_new (w.alloc (.cells (hcells hart0) t)) (.cells (hcells hart0) t)
    have h2 : (w.alloc (.cells (hcells hart0) t)).heap.size = w.heap.size + 1 := by simp
    rw [h2] at this
    unfold World.frozen?
    rw [this]; simp
  · have e := hb.block w.heap.size (by omega)
    rw [heap_alloc_new] at e
    have hj2 : 0 + j < (hcells hart0).size := by omega
    exact ⟨by unfold World.cell?; rw [e]; simp; omega, by unfold World.frozen?; rw [e]; simp⟩
theorem RdAt.other {rp : Nat} {w : World} {s : Rd} (h : RdAt rp w s) {p : Addr} (hp : rp < p.block) (u : Value) : RdAt rp (w.setCell p u) s := by
  obtain ⟨v, h1, h2, h3⟩ := h.v
  have hne : ∀ o, (w.setCell p u).cell? ⟨rp, o, none⟩ = w.cell? ⟨rp, o, none⟩ := fun o => World.cell?_setCell_other _ _ _ _ (by intro e; rw [e] at hp; exact absurd hp (Nat.lt_irrefl _))
  exact ⟨⟨v, (hne _).trans h1, ints_set h2 h3 (Nat.le_of_lt hp) u, h3⟩, (hne _).trans h.bad, fun o => (World.frozen?_setCell _ _ _ _).trans (h.frz o), by simpa using h.lt⟩
end Go.Proofs.Ytlfnddmncbkjaaa.Fb
namespace Go.Proofs.Ytlfnddmncbkjaaa.Fb
open Go.RowKit
theorem owns_mono {B B' : Nat} {e : TypeId} {k : Nat} {v : Value} {n : Nat} {xs : List Value} {w : World} (h : w.ownsRow B e k v n xs) (hb : B' ≤ B) : w.ownsRow B' e k v n xs := by
  obtain ⟨h1, h2⟩ := h
  refine ⟨h1, ?_⟩
  rcases h2 with ⟨rfl, rfl⟩ | ⟨g, cap, cur, rfl, hB, hh, h3⟩
  · exact .inl ⟨rfl, rfl⟩
  · exact .inr ⟨g, cap, cur, rfl, Nat.le_trans hb hB, hh, h3⟩
theorem owns_apart {B B' : Nat} {e e' : TypeId} {k k' : Nat} {v v' : Value} {n n' : Nat} {xs xs' : List Value} {w : World} (h : w.ownsRow B e k v n xs) (h' : w.ownsRow B' e' k' v' n' xs') (hne : e ≠ e') : ∀ g, v.ownBlock = some g → v'.ownBlock ≠ some g := by
  intro g h1 h2
  rcases h.2 with ⟨rfl, _⟩ | ⟨g1, _, c1, rfl, _, e1, _⟩
  · cases h1
  rcases h'.2 with ⟨rfl, _⟩ | ⟨g2, _, c2, rfl, _, e2, _⟩
  · cases h2
  cases h1; cases h2
  rw [e1] at e2
  cases e2
  exact hne rfl
structure MB (mp : Nat) (t8 tH : TypeId) (vm vh : Value) (w : World) (mem : List Int) (hs : List Hart) : Prop where
  c0 : w.cell? ⟨mp, 0, none⟩ = some vm
  c1 : w.cell? ⟨mp, 1, none⟩ = some vh
  frz : ∀ o, w.frozen? ⟨mp, o, none⟩ = false
  own0 : w.ownsRow (mp + 1) t8 1 vm mem.length (mem.map (Value.int .u8))
  own1 : w.ownsRow (mp + 1) tH 37 vh hs.length (hs.flatMap hlist)
section
variable {mp : Nat} {t8 tH : TypeId} {vm vh : Value} {w w' : World} {mem : List Int} {hs : List Hart}
theorem MB.lt (h : MB mp t8 tH vm vh w mem hs) : mp < w.heap.size := lt_of_cell h.c0
theorem MB.move (h : MB mp t8 tH vm vh w mem hs) (hb : ∀ g, mp ≤ g → g < w.heap.size → w'.heap[g]? = w.heap[g]?) : MB mp t8 tH vm vh w' mem hs := by
  have e := hb mp (Nat.le_refl _) h.lt
  exact ⟨(cell_block e _).trans h.c0, (cell_block e _).trans h.c1, fun o => (frozen_block e o).trans (h.frz o), owns_block h.own0 (fun g hg => by have := h.own0.lt g hg; exact hb g (by omega) this.2), owns_block h.own1 (fun g hg => by have := h.own1.lt g hg; exact hb g (by omega) this.2)⟩
theorem MB.at (h : MB mp t8 tH vm vh w mem hs) : MachAt w vm vh ⟨mem, hs⟩ := ⟨owns_sl h.own0, owns_sl h.own1⟩
theorem MB.next {v' : Value} {x : Hart} (h : MB mp t8 tH vm vh w mem hs) (hne : t8 ≠ tH) (hown : w'.ownsRow (mp + 1) tH 37 v' (hs.length + 1) (hs.flatMap hlist ++ hlist x)) (hg : w.grownBy w' vh.ownBlock) : MB mp t8 tH vm v' (w'.setCell ⟨mp, 1, none⟩ v') mem (hs ++ [x]) := by
  have hfar : ∀ j, j < w.heap.size → vh.ownBlock ≠ some j → w'.heap[j]? = w.heap[j]? := fun j hj hn => hg.block j hj (fun e => hn e.symm)
  have e := hfar mp h.lt (fun e => by have := h.own1.lt _ e; omega)
  refine ⟨(World.cell?_setCell_other _ _ _ _ (by intro e; injection e with _ e2; omega)).trans ((cell_block e _).trans h.c0), World.cell?_setCell_same _ _ _ ((cell_block e _).trans h.c1), fun o => (World.frozen?_setCell _ _ _ _).trans ((frozen_block e o).trans (h.frz o)), ?_, ?_⟩
  · refine owns_block h.own0 (fun g hg' => ?_)
    have h1 := h.own0.lt g hg'
    exact (Below.heap_setCell _ _ _ _ (by show g ≠ mp; omega)).trans (hfar g h1.2 (owns_apart h.own0 h.own1 hne g hg'))
  · have := ownsRow_setCell_below hown (a := ⟨mp, 1, none⟩) (Nat.lt_succ_self mp) v'
    simpa using this
end
theorem RdAt.far {rp B : Nat} {w w' : World} {s : Rd} (h : RdAt rp w s) (hb : Below B w w') (hlt : rp < B) : RdAt rp w' s := by
  obtain ⟨v, h1, h2, h3⟩ := h.v
  have e := hb.block rp hlt
  refine ⟨⟨v, (cell_block e _).trans h1, ?_, h3⟩, (cell_block e _).trans h.bad, fun o => (frozen_block e o).trans (h.frz o), Nat.lt_of_lt_of_le h.lt hb.size⟩
  obtain ⟨k1, ao, cap, k2, k3, k4, k5, k6⟩ := h2
  refine ⟨k1, ao, cap, k2, k3, k4, k5, fun a ha hx => ⟨(k6 a ha hx).1, fun j hj => ?_⟩⟩
  have hne : s.1 ≠ [] := fun e => hx (by rw [e]; rfl)
  have hbl := h3 hne a.block (by rw [k2, ha]; rfl)
  exact (cell_block (hb.block a.block (by omega)) _).trans ((k6 a ha hx).2 j hj)
end Go.Proofs.Ytlfnddmncbkjaaa.Fb
namespace Go.Proofs.Ytlfnddmncbkjaaa.Fb
open Go.RowKit
def Rng (d : CoreD) : Prop := (d.fr = 0 ∧ d.tw = 0) ∨ (0 ≤ d.fr ∧ d.fr < d.tw ∧ d.tw ≤ d.m.length)
theorem Rng.put {d : CoreD} (h : Rng d) (hl : d.m.length ≤ 4096) (op a x : Int) (ha : 0 ≤ a) : Rng (d.put op a x) := by
  unfold CoreD.put
  split
  · rename_i hq
    have hs : 0 < msize op ∧ a + msize op ≤ d.m.length := by simp [mStoreOk, there] at hq; omega
    refine .inr ⟨ha, ?_, ?_⟩
    · show a < (a + msize op) % 4294967296
      omega
    · show (a + msize op) % 4294967296 ≤ ((mStore d.m op a x).length : Int)
      rw [mStore_length]
      omega
  · exact h
end Go.Proofs.Ytlfnddmncbkjaaa.Fb
namespace Go.Proofs.Ytlfnddmncbkjaaa.Fb
open Go.RowKit
structure PB (bp bh hc : Nat) (vm vo : Value) (ty : TypeId) (w : World) (s : St) : Prop where
  b1 : bp < bh
  c0 : w.cell? ⟨bp, 0, none⟩ = some vm
  c1 : w.cell? ⟨bp, 1, none⟩ = some (.slice (some ⟨bh, 0, none⟩) s.harts.length hc)
  c2 : w.cell? ⟨bp, 2, none⟩ = some vo
  c3 : w.cell? ⟨bp, 3, none⟩ = some (.int .i64 s.steps)
  frz : ∀ o, w.frozen? ⟨bp, o, none⟩ = false
  harts : At w bh 0 (s.harts.flatMap hlist)
  hlt : bh < w.heap.size
  hfz : ∀ o, w.frozen? ⟨bh, o, none⟩ = false
  bytes : Ints .u8 w vm s.mem
  mlt : s.mem ≠ [] → ∀ k, vm.ownBlock = some k → bp < k ∧ k ≠ bh ∧ vo.ownBlock ≠ some k
  own : w.ownsRow (bh + 1) ty 1 vo s.out.length (s.out.map (Value.int .u32))
  hcap : s.harts.length ≤ hc ∧ hc ≤ maxLen
theorem ints_lt {k : IntKind} {w : World} {v : Value} {l : List Int} (h : Ints k w v l) (hl : l ≠ []) {g : Nat} (e : v.ownBlock = some g) : g < w.heap.size := by
  obtain ⟨ao, cap, rfl, _, _, _, ho⟩ := h.open
  obtain ⟨b, off, rfl, _, hx⟩ := ho hl
  cases e
  exact lt_of_cell (hx 0 (List.length_pos_iff.2 hl))
theorem ints_move {k : IntKind} {w w' : World} {v : Value} {l : List Int} (h : Ints k w v l) (hb : l ≠ [] → ∀ g, v.ownBlock = some g → w'.heap[g]? = w.heap[g]?) : Ints k w' v l := by
  by_cases hl : l = []
  · subst hl
    obtain ⟨h1, ao, cap, h2, h3, h4, h5, h6⟩ := h
    exact ⟨h1, ao, cap, h2, h3, h4, h5, fun a ha hx => absurd rfl hx⟩
  · exact sl_block h (hb hl)
section
variable {bp bh hc k : Nat} {vm vo : Value} {ty : TypeId} {w w' : World} {s : St}
theorem PB.lt (h : PB bp bh hc vm vo ty w s) : bp < w.heap.size := lt_of_cell h.c0
theorem PB.below (h : PB bp bh hc vm vo ty w s) (hb : Below w.heap.size w w') : PB bp bh hc vm vo ty w' s := by
  have e := hb.block bp h.lt
  have eh := hb.block bh h.hlt
  exact ⟨h.b1, (cell_block e _).trans h.c0, (cell_block e _).trans h.c1, (cell_block e _).trans h.c2, (cell_block e _).trans h.c3, fun o => (frozen_block e o).trans (h.frz o), h.harts.below hb, Nat.lt_of_lt_of_le h.hlt hb.size, fun o => (frozen_block eh o).trans (h.hfz o), h.bytes.below hb, h.mlt, owns_below h.own hb, h.hcap⟩
theorem PB.tick (h : PB bp bh hc vm vo ty w s) (n : Nat) : PB bp bh hc vm vo ty (w.setCell ⟨bp, 3, none⟩ (.int .i64 n)) { s with steps := n } := by
  have b1 := h.b1
  have hbk : ∀ j, j ≠ bp → (w.setCell ⟨bp, 3, none⟩ (.int .i64 n)).heap[j]? = w.heap[j]? := fun j hj => Below.heap_setCell _ _ _ _ (by show j ≠ bp; exact hj)
  have hc : ∀ j, j ≠ 3 → (w.setCell ⟨bp, 3, none⟩ (.int .i64 n)).cell? ⟨bp, j, none⟩ = w.cell? ⟨bp, j, none⟩ := fun j hj => World.cell?_setCell_other _ _ _ _ (by intro e; injection e with _ e2; omega)
  exact ⟨h.b1, (hc 0 (by omega)).trans h.c0, (hc 1 (by omega)).trans h.c1, (hc 2 (by omega)).trans h.c2, World.cell?_setCell_same _ _ _ h.c3, fun o => (World.frozen?_setCell _ _ _ _).trans (h.frz o), h.harts.set_other (by show bp ≠ bh; omega) _, by have := h.hlt; simpa using this, fun o => (World.frozen?_setCell _ _ _ _).trans (h.hfz o), ints_move h.bytes (fun hm g hg => hbk g (by have := h.mlt hm g hg; omega)), h.mlt, owns_block h.own (fun g hg => hbk g (by have := h.own.lt g hg; omega)), h.hcap⟩
theorem PB.out {v' : Value} {o : List Int} (h : PB bp bh hc vm vo ty w s) (hown : w'.ownsRow (bh + 1) ty 1 v' (s.out.length + o.length) (s.out.map (Value.int .u32) ++ o.map (Value.int .u32))) (hg : w.grownBy w' vo.ownBlock) (hf : ∀ k, v'.ownBlock = some k → vo.ownBlock = some k ∨ w.heap.size ≤ k) :
    PB bp bh hc vm v' ty (w'.setCell ⟨bp, 2, none⟩ v') { s with out := s.out ++ o } ∧ Below bp w (w'.setCell ⟨bp, 2, none⟩ v') ∧ (∀ g, g < w.heap.size → g ≠ bp → vo.ownBlock ≠ some g → (w'.setCell ⟨bp, 2, none⟩ v').heap[g]? = w.heap[g]?) := by
  have b1 := h.b1
  have hlt := h.lt
  have hh := h.hlt
  have hsz := hg.size
  have hfar : ∀ j, j < w.heap.size → vo.ownBlock ≠ some j → w'.heap[j]? = w.heap[j]? := fun j hj hn => hg.block j hj (fun e => hn e.symm)
  have hbk : ∀ j, j ≠ bp → (w'.setCell ⟨bp, 2, none⟩ v').heap[j]? = w'.heap[j]? := fun j hj => Below.heap_setCell _ _ _ _ (by show j ≠ bp; exact hj)
  have hno : ∀ j, j ≤ bh → vo.ownBlock ≠ some j := fun j hj e => by have := h.own.lt j e; omega
  have e := hfar bp hlt (hno bp (by omega))
  have eh := (hbk bh (by omega)).trans (hfar bh hh (hno bh (Nat.le_refl _)))
  have hcc : ∀ j, j ≠ 2 → (w'.setCell ⟨bp, 2, none⟩ v').cell? ⟨bp, j, none⟩ = w.cell? ⟨bp, j, none⟩ := fun j hj => (World.cell?_setCell_other _ _ _ _ (by intro e; injection e with _ e2; omega)).trans (cell_block e j)
  refine ⟨⟨h.b1, (hcc 0 (by omega)).trans h.c0, (hcc 1 (by omega)).trans h.c1, World.cell?_setCell_same _ _ _ ((cell_block e 2).trans h.c2), (hcc 3 (by omega)).trans h.c3, fun o => (World.frozen?_setCell _ _ _ _).trans ((frozen_block e o).trans (h.frz o)), fun j hj => (cell_block eh _).trans (h.harts j hj), by simp; omega, fun o => (frozen_block eh o).trans (h.hfz o), ints_move h.bytes (fun hne g hg' => ?_), fun hne g hg' => ?_, ?_, h.hcap⟩, ?_, fun g h1 h2 h3 => (hbk g h2).trans (hfar g h1 h3)⟩
  · have := h.mlt hne g hg'
    exact (hbk g (by omega)).trans (hfar g (ints_lt h.bytes hne hg') this.2.2)
  · have := h.mlt hne g hg'
    refine ⟨this.1, this.2.1, fun e2 => ?_⟩
    have hl := ints_lt h.bytes hne hg'
    rcases hf g e2 with e3 | e3
    · exact this.2.2 e3
    · omega
  · have := ownsRow_setCell_below hown (a := ⟨bp, 2, none⟩) (by show bp < bh + 1; omega) v'
    simpa using this
  · exact ((Below.refl bp w).grown hg (by omega) (fun g e => by have := h.own.lt g e; omega)).setCell (p := ⟨bp, 2, none⟩) (Nat.le_refl _) _
theorem PB.lost {hs : List Hart} (h : PB bp bh hc vm vo ty w s) (hl : hs.length = s.harts.length) (ha : At w' bh 0 (hs.flatMap hlist)) (hg : Chg (fun p => p.block = bh) w w') :
    PB bp bh hc vm vo ty w' { s with harts := hs } := by
  have b1 := h.b1
  have hlt := h.lt
  have hh := h.hlt
  have hsz := hg.size
  have hbk : ∀ j, j < w.heap.size → j ≠ bh → w'.heap[j]? = w.heap[j]? := fun j hj hn => hg.block j hj (fun o e => hn e)
  have e := hbk bp hlt (by omega)
  exact ⟨h.b1, (cell_block e _).trans h.c0, (cell_block e _).trans (by rw [h.c1, ← hl]), (cell_block e _).trans h.c2, (cell_block e _).trans h.c3, fun o => (frozen_block e o).trans (h.frz o), ha, by omega, fun o => (hg.frozen ⟨bh, o, none⟩ hh).trans (h.hfz o), ints_move h.bytes (fun hne g hg' => hbk g (ints_lt h.bytes hne hg') (h.mlt hne g hg').2.1), h.mlt, owns_block h.own (fun g hg' => hbk g (h.own.lt g hg').2 (by have := h.own.lt g hg'; omega)), by rw [show ({ s with harts := hs } : St).harts.length = s.harts.length from hl]; exact h.hcap⟩
end
end Go.Proofs.Ytlfnddmncbkjaaa.Fb
namespace Go.Proofs.Ytlfnddmncbkjaaa.Fb
open Go.RowKit
structure BlkD where
  pc : Int
  vi : Value
  ins : List InsD
def blist (x : BlkD) : List Value := [.int .u32 x.pc, x.vi]
structure BlkOk (w : World) (x : BlkD) : Prop where
  at_ : BlockAt w x.vi x.ins
  pc : U32 x.pc
theorem BlkOk.below {w w' : World} {x : BlkD} (h : BlkOk w x) (hb : Below w.heap.size w w') : BlkOk w' x := ⟨Sl.below h.at_ hb, h.pc⟩
def Blks (w : World) (v : Value) (l : List BlkD) : Prop := Sl w v 2 l.length (l.flatMap blist) ∧ ∀ x ∈ l, BlkOk w x
theorem Blks.below {w w' : World} {v : Value} {l : List BlkD} (h : Blks w v l) (hb : Below w.heap.size w w') : Blks w' v l := ⟨Sl.below h.1 hb, fun x hx => (h.2 x hx).below hb⟩
end Go.Proofs.Ytlfnddmncbkjaaa.Fb
namespace Go.Proofs.Ytlfnddmncbkjaaa.Fb
open Go.RowKit
structure Cp (B : Nat) (TB TI : TypeId) (w : World) (v : Value) (ys : List BlkD) : Prop where
  own : w.ownsRow B TB 2 v ys.length (ys.flatMap blist)
  pc : ∀ y ∈ ys, U32 y.pc
  row : ∀ y ∈ ys, w.ownsRow B TI 5 y.vi y.ins.length (y.ins.flatMap ilist)
section
variable {B : Nat} {TB TI : TypeId} {w w' : World} {v v' : Value} {ys : List BlkD} {y : BlkD}
theorem Cp.below (h : Cp B TB TI w v ys) (hb : Below w.heap.size w w') : Cp B TB TI w' v ys := ⟨owns_below h.own hb, h.pc, fun y hy => owns_below (h.row y hy) hb⟩
theorem Cp.mono (h : Cp B TB TI w v ys) {B' : Nat} (hb : B' ≤ B) : Cp B' TB TI w v ys := ⟨owns_mono h.own hb, h.pc, fun y hy => owns_mono (h.row y hy) hb⟩
theorem Cp.ok (h : Cp B TB TI w v ys) : ∀ y ∈ ys, BlkOk w y := fun y hy => ⟨owns_sl (h.row y hy), h.pc y hy⟩
theorem Cp.set (h : Cp B TB TI w v ys) {p : Addr} (hp : p.block < B) (u : Value) : Cp B TB TI (w.setCell p u) v ys :=
  ⟨ownsRow_setCell_below h.own hp u, h.pc, fun y hy => ownsRow_setCell_below (h.row y hy) hp u⟩
theorem Cp.snoc (hne : TB ≠ TI) (h : Cp B TB TI w v ys) (hp : U32 y.pc) (hy : w.ownsRow B TI 5 y.vi y.ins.length (y.ins.flatMap ilist)) (hown : w'.ownsRow B TB 2 v' (ys.length + 1) (ys.flatMap blist ++ blist y)) (hg : w.grownBy w' v.ownBlock) : Cp B TB TI w' v' (ys ++ [y]) := by
  have key : ∀ z : BlkD, w.ownsRow B TI 5 z.vi z.ins.length (z.ins.flatMap ilist) → w'.ownsRow B TI 5 z.vi z.ins.length (z.ins.flatMap ilist) := fun z hz =>
    owns_block hz (fun g e => hg.block g (hz.lt g e).2 (fun e2 => owns_apart h.own hz hne g e2.symm e))
  refine ⟨by simpa using hown, fun z hz => ?_, fun z hz => ?_⟩
  · rcases List.mem_append.1 hz with hz | hz
    · exact h.pc z hz
    · rw [List.mem_singleton] at hz; rw [hz]; exact hp
  · rcases List.mem_append.1 hz with hz | hz
    · exact key z (h.row z hz)
    · rw [List.mem_singleton] at hz; rw [hz]; exact key y hy
end
end Go.Proofs.Ytlfnddmncbkjaaa.Fb
namespace Go.Proofs.Ytlfnddmncbkjaaa.Fb
open Go.RowKit
def Far (B : Nat) (v : Value) (l : List BlkD) : Prop := (∀ q, v.ownBlock = some q → B ≤ q) ∧ ∀ x ∈ l, ∀ q, x.vi.ownBlock = some q → B ≤ q
theorem Cp.far {B : Nat} {TB TI : TypeId} {w : World} {v : Value} {ys : List BlkD} (h : Cp B TB TI w v ys) : Far B v ys := ⟨fun q e => (h.own.lt q e).1, fun x hx q e => ((h.row x hx).lt q e).1⟩
theorem Far.mono {B B' : Nat} {v : Value} {l : List BlkD} (h : Far B v l) (hb : B' ≤ B) : Far B' v l := ⟨fun q e => Nat.le_trans hb (h.1 q e), fun x hx q e => Nat.le_trans hb (h.2 x hx q e)⟩
theorem own_ty {w : World} {B : Nat} {e : TypeId} {k : Nat} {v : Value} {n : Nat} {xs : List Value} (h : w.ownsRow B e k v n xs) {g : Nat} (hg : v.ownBlock = some g) : ∃ cs f, w.heap[g]? = some (.cells cs e f) := by
  rcases h.2 with ⟨rfl, _⟩ | ⟨g1, _, c1, rfl, _, q1, _⟩
  · cases hg
  · cases hg
    exact ⟨_, _, q1⟩
def Typ (TB TI : TypeId) (w : World) (v : Value) (l : List BlkD) : Prop := (∀ q, v.ownBlock = some q → ∃ cs f, w.heap[q]? = some (.cells cs TB f)) ∧ ∀ x ∈ l, ∀ q, x.vi.ownBlock = some q → ∃ cs f, w.heap[q]? = some (.cells cs TI f)
theorem Typ.drop {TB TI : TypeId} {w : World} {v v' : Value} {l : List BlkD} (h : Typ TB TI w v l) (e : v'.ownBlock = v.ownBlock) (n : Nat) : Typ TB TI w v' (l.drop n) := ⟨fun q hq => h.1 q (by rw [← e]; exact hq), fun x hx => h.2 x (List.mem_of_mem_drop hx)⟩
end Go.Proofs.Ytlfnddmncbkjaaa.Fb
namespace Go.Proofs.Ytlfnddmncbkjaaa.Fb
open Go.RowKit
structure UndoD where
  hart : Int
  was : Hart
  frm : Int
  bytes : List Int
  lost : List (Int × Int)
structure UndD where
  d : UndoD
  vb : Value
  vl : Value
def llist (p : Int × Int) : List Value := [.int .i64 p.1, .int .u32 p.2]
def ulist (x : UndD) : List Value := .int .i64 x.d.hart :: (hlist x.d.was ++ [.int .u32 x.d.frm, x.vb, x.vl])
theorem ulist_len {x : UndD} (h : x.d.was.regs.length = 32) : (ulist x).length = 41 := by
  unfold ulist
  rw [List.length_cons, List.length_append, hlist_len h]
  rfl
structure Up (B : Nat) (TD TY TL : TypeId) (w : World) (v : Value) (us : List UndD) : Prop where
  own : w.ownsRow B TD 41 v us.length (us.flatMap ulist)
  wf : ∀ x ∈ us, x.d.was.Wf
  byt : ∀ x ∈ us, w.ownsRow B TY 1 x.vb x.d.bytes.length (x.d.bytes.map (Value.int .u8))
  los : ∀ x ∈ us, w.ownsRow B TL 2 x.vl x.d.lost.length (x.d.lost.flatMap llist)
section
variable {B : Nat} {TD TY TL : TypeId} {w w' : World} {v v' : Value} {us : List UndD} {x : UndD}
theorem Up.nil (w : World) : Up B TD TY TL w (.slice none 0 0) [] := ⟨World.ownsRow_nil _ _ _ _, (by intro x hx; cases hx), (by intro x hx; cases hx), (by intro x hx; cases hx)⟩
theorem Up.keep (h : Up B TD TY TL w v us) (hk : ∀ q, q < w.heap.size → B ≤ q → (∃ cs f, w.heap[q]? = some (.cells cs TD f) ∨ w.heap[q]? = some (.cells cs TY f) ∨ w.heap[q]? = some (.cells cs TL f)) → w'.heap[q]? = w.heap[q]?) : Up B TD TY TL w' v us := by
  refine ⟨owns_block h.own (fun g hg => ?_), h.wf, fun x hx => owns_block (h.byt x hx) (fun g hg => ?_), fun x hx => owns_block (h.los x hx) (fun g hg => ?_)⟩
  · obtain ⟨cs, f, e⟩ := own_ty h.own hg
    exact hk g (h.own.lt g hg).2 (h.own.lt g hg).1 ⟨cs, f, .inl e⟩
  · obtain ⟨cs, f, e⟩ := own_ty (h.byt x hx) hg
    exact hk g ((h.byt x hx).lt g hg).2 ((h.byt x hx).lt g hg).1 ⟨cs, f, .inr (.inl e)⟩
  · obtain ⟨cs, f, e⟩ := own_ty (h.los x hx) hg
    exact hk g ((h.los x hx).lt g hg).2 ((h.los x hx).lt g hg).1 ⟨cs, f, .inr (.inr e)⟩
theorem Up.below (h : Up B TD TY TL w v us) (hb : Below w.heap.size w w') : Up B TD TY TL w' v us := h.keep (fun q hq _ _ => hb.block q hq)
theorem Up.mono (h : Up B TD TY TL w v us) {B' : Nat} (hb : B' ≤ B) : Up B' TD TY TL w v us := ⟨owns_mono h.own hb, h.wf, fun x hx => owns_mono (h.byt x hx) hb, fun x hx => owns_mono (h.los x hx) hb⟩
theorem Up.snoc (h1 : TD ≠ TY) (h2 : TD ≠ TL) (h : Up B TD TY TL w v us) (wx : x.d.was.Wf) (hb : w.ownsRow B TY 1 x.vb x.d.bytes.length (x.d.bytes.map (Value.int .u8))) (hl : w.ownsRow B TL 2 x.vl x.d.lost.length (x.d.lost.flatMap llist)) (hown : w'.ownsRow B TD 41 v' (us.length + 1) (us.flatMap ulist ++ ulist x)) (hg : w.grownBy w' v.ownBlock) : Up B TD TY TL w' v' (us ++ [x]) := by
  have kb : ∀ (vv : Value) (n : Nat) (xs : List Value), w.ownsRow B TY 1 vv n xs → w'.ownsRow B TY 1 vv n xs := fun vv n xs hz =>
    owns_block hz (fun g e => hg.block g (hz.lt g e).2 (fun e2 => owns_apart h.own hz h1 g e2.symm e))
  have kl : ∀ (vv : Value) (n : Nat) (xs : List Value), w.ownsRow B TL 2 vv n xs → w'.ownsRow B TL 2 vv n xs := fun vv n xs hz =>
    owns_block hz (fun g e => hg.block g (hz.lt g e).2 (fun e2 => owns_apart h.own hz h2 g e2.symm e))
  refine ⟨by simpa using hown, fun z hz => ?_, fun z hz => ?_, fun z hz => ?_⟩
  all_goals rcases List.mem_append.1 hz with hz | hz
  · exact h.wf z hz
  · rw [List.mem_singleton] at hz; rw [hz]; exact wx
  · exact kb _ _ _ (h.byt z hz)
  · rw [List.mem_singleton] at hz; rw [hz]; exact kb _ _ _ hb
  · exact kl _ _ _ (h.los z hz)
  · rw [List.mem_singleton] at hz; rw [hz]; exact kl _ _ _ hl
end
theorem und_at {h : Hart} (wf : h.regs.length = 32) (k : Int) (a b c : Value) (i : Nat) (v : Value) (e : [a, b, c][i]? = some v) : (Value.int .i64 k :: (hlist h ++ [a, b, c]))[38 + i]? = some v := by
  have hl := hlist_len wf
  rw [show 38 + i = (37 + i) + 1 by omega, List.getElem?_cons_succ, List.getElem?_append_right (by omega), hl, show 37 + i - 37 = i by omega]
  exact e
theorem und_set {h : Hart} (wf : h.regs.length = 32) (k : Int) (a b c : Value) (i : Nat) (v : Value) : (Value.int .i64 k :: (hlist h ++ [a, b, c])).set (38 + i) v = Value.int .i64 k :: (hlist h ++ [a, b, c].set i v) := by
  have hl := hlist_len wf
  rw [show 38 + i = (37 + i) + 1 by omega, List.set_cons_succ, List.set_append_right _ _ (by omega), hl, show 37 + i - 37 = i by omega]
structure UBx (TD : TypeId) (u : Nat) (k : Int) (h : Hart) (a b c : Value) (w : World) : Prop where
  wf : h.regs.length = 32
  blk : w.heap[u]? = some (.cells (Value.int .i64 k :: (hlist h ++ [a, b, c])).toArray TD (0, 0))
section
variable {TD : TypeId} {u : Nat} {k : Int} {h : Hart} {a b c : Value} {w w' : World}
theorem UBx.get (hu : UBx TD u k h a b c w) (i : Nat) (v : Value) (e : [a, b, c][i]? = some v) : w.cell? ⟨u, 38 + i, none⟩ = some v := by
  simp only [World.cell?, hu.blk, List.getElem?_toArray]
  exact und_at hu.wf k a b c i v e
theorem UBx.frz (hu : UBx TD u k h a b c w) (o : Nat) : w.frozen? ⟨u, o, none⟩ = false := by simp [World.frozen?, hu.blk]
theorem UBx.keep (hu : UBx TD u k h a b c w) (e : w'.heap[u]? = w.heap[u]?) : UBx TD u k h a b c w' := ⟨hu.wf, e.trans hu.blk⟩
theorem UBx.lt (hu : UBx TD u k h a b c w) : u < w.heap.size := (Array.getElem?_eq_some_iff.1 hu.blk).1
theorem UBx.at_ (hu : UBx TD u k h a b c w) : At w u 0 (Value.int .i64 k :: (hlist h ++ [a, b, c])) := fun j hj => by
  simp only [World.cell?, hu.blk, Nat.zero_add, List.getElem?_toArray]
  exact List.getElem?_eq_getElem hj
theorem UBx.set (hu : UBx TD u k h a b c w) (i : Nat) (v : Value) {a' b' c' : Value} (e : [a, b, c].set i v = [a', b', c']) : UBx TD u k h a' b' c' (w.setCell ⟨u, 38 + i, none⟩ v) := by
  refine ⟨hu.wf, ?_⟩
  simp only [World.setCell, Array.getElem?_modify]
  rw [if_pos trivial, hu.blk]
  simp only [Option.map_some, Option.isSome_none, Bool.false_eq_true, if_false, List.setIfInBounds_toArray]
  rw [und_set hu.wf, e]
end
end Go.Proofs.Ytlfnddmncbkjaaa.Fb
namespace Go.Proofs.Ytlfnddmncbkjaaa.Fb
open Go.RowKit
def patch (m : List Int) (f : Int) (bs : List Int) : List Int := m.take f.toNat ++ bs ++ m.drop (f.toNat + bs.length)
def reset1 (p : Int × Int) (hs : List Hart) : List Hart := hs.set p.1.toNat { (hs.getD p.1.toNat hart0) with held := true, heldAt := p.2 }
def resets : List (Int × Int) → List Hart → List Hart
  | [], hs => hs
  | p :: r, hs => resets r (reset1 p hs)
def backOne (u : UndoD) (m : Mach) : Mach := ⟨patch m.mem u.frm u.bytes, resets u.lost (m.harts.set u.hart.toNat u.was)⟩
def backL (us : List UndoD) (m : Mach) : Mach := us.foldr backOne m
def inH (m : Mach) (k : Int) : Bool := decide (0 ≤ k) && decide (k < m.harts.length)
def fitsU (m : Mach) (u : UndoD) : Bool := u.lost.all (fun p => inH m p.1) && (inH m u.hart && u.was.ok && decide (u.frm + u.bytes.length ≤ m.mem.length))
def backS (m : Mach) (us : List UndoD) (steps : Int) : Mach × Int :=
  if wrong m [] = 0 then (if us.all (fitsU m) = true then (if steps < 0 ∨ (us.length : Int) < steps then (⟨[], []⟩, 3) else (backL (us.drop (us.length - steps.toNat)) m, 0)) else (⟨[], []⟩, 2)) else (⟨[], []⟩, 2)
theorem resets_append : ∀ (a b : List (Int × Int)) (hs : List Hart), resets (a ++ b) hs = resets b (resets a hs)
  | [], _, _ => rfl
  | p :: r, b, hs => resets_append r b (reset1 p hs)
theorem patch_len {m : List Int} {f : Int} {bs : List Int} (h0 : 0 ≤ f) (h : f + bs.length ≤ m.length) : (patch m f bs).length = m.length := by
  unfold patch
  simp only [List.length_append, List.length_take, List.length_drop]
  omega
structure UR (w : World) (v : Value) (us : List UndD) : Prop where
  row : Sl w v 41 us.length (us.flatMap ulist)
  wf : ∀ x ∈ us, x.d.was.Wf
  byt : ∀ x ∈ us, Sl w x.vb 1 x.d.bytes.length (x.d.bytes.map (Value.int .u8))
  los : ∀ x ∈ us, Sl w x.vl 2 x.d.lost.length (x.d.lost.flatMap llist)
  rng : ∀ x ∈ us, i64ok x.d.hart ∧ U32 x.d.frm ∧ Bytes x.d.bytes ∧ ∀ p ∈ x.d.lost, i64ok p.1 ∧ U32 p.2
theorem UR.below {w w' : World} {v : Value} {us : List UndD} (h : UR w v us) (hb : Below w.heap.size w w') : UR w' v us := ⟨h.row.below hb, h.wf, fun x hx => (h.byt x hx).below hb, fun x hx => (h.los x hx).below hb, h.rng⟩
theorem ulist_at {x : UndD} (wf : x.d.was.regs.length = 32) {w : World} {b o : Nat} (h : At w b o (ulist x)) : w.cell? ⟨b, o, none⟩ = some (.int .i64 x.d.hart) ∧ At w b (o + 1) (hlist x.d.was) ∧ w.cell? ⟨b, o + 38, none⟩ = some (.int .u32 x.d.frm) ∧ w.cell? ⟨b, o + 39, none⟩ = some x.vb ∧ w.cell? ⟨b, o + 40, none⟩ = some x.vl := by
  unfold ulist at h
  have h0 := h.get (j := 0) rfl
  have h1 : At w b (o + 1) (hlist x.d.was ++ [.int .u32 x.d.frm, x.vb, x.vl]) := fun j hj => by
    have := h (j + 1) (by simpa using hj)
    rw [show o + 1 + j = o + (j + 1) by omega, this]; rfl
  have h2 : At w b (o + 38) [.int .u32 x.d.frm, x.vb, x.vl] := by
    have := h1.append_right
    rw [hlist_len wf] at this
    exact this
  exact ⟨h0, h1.append_left, h2.get (j := 0) rfl, h2.get (j := 1) rfl, h2.get (j := 2) rfl⟩
theorem ulist_one {x : UndD} (hb : x.vb.oneCell' = true) (hl : x.vl.oneCell' = true) : ∀ u ∈ ulist x, u.oneCell' = true := by
  unfold ulist
  intro u hu
  simp only [List.mem_cons, List.mem_append, List.not_mem_nil, or_false] at hu
  rcases hu with rfl | hu | rfl | rfl | rfl
  · rfl
  · exact hlist_one x.d.was u (by simpa [hcells] using hu)
  · rfl
  · exact hb
  · exact hl
end Go.Proofs.Ytlfnddmncbkjaaa.Fb
namespace Go.Proofs.Ytlfnddmncbkjaaa.Fb
open Go.RowKit
structure ShownAt (w : World) (vm vh vo : Value) (s : St) : Prop where
  mach : MachAt w vm vh s.mach
  out : Ints .u32 w vo s.out
theorem shown_nil (w : World) (n : Nat) : ShownAt w (.slice none 0 0) (.slice none 0 0) (.slice none 0 0) ⟨[], [], [], n⟩ :=
  have h : ∀ (s : Nat), Sl w (.slice none 0 0) s 0 [] := fun s => ⟨by simp, none, 0, rfl, Nat.zero_le _, by decide, fun _ => rfl, fun a ha => by cases ha⟩
  ⟨⟨h 1, h 37⟩, h 1⟩
theorem ShownAt.setCells {w : World} {vm vh vo : Value} {s : St} (h : ShownAt w vm vh vo s) {b : Nat} (h1 : ∀ k, vm.ownBlock = some k → b < k) (h2 : ∀ k, vh.ownBlock = some k → b < k) (h3 : ∀ k, vo.ownBlock = some k → b < k) (o : Nat) (vs : List Value) : ShownAt (w.setCells b o vs) vm vh vo s :=
  ⟨⟨sl_setCells (fun b' off n c e => by have := h1 b' (by rw [e]; rfl); omega) _ _ _ h.mach.1, sl_setCells (fun b' off n c e => by have := h2 b' (by rw [e]; rfl); omega) _ _ _ h.mach.2⟩, sl_setCells (fun b' off n c e => by have := h3 b' (by rw [e]; rfl); omega) _ _ _ h.out⟩
theorem there_blk {w : World} {b n : Nat} {cs : Array Value} {t : TypeId} (h : w.heap[b]? = some (.cells cs t (0, 0))) (hn : cs.size = n) : w.there b 0 n := fun j hj => by
  have hj2 : 0 + j < cs.size := by omega
  exact ⟨by unfold World.cell?; rw [h]; simp; omega, by unfold World.frozen?; rw [h]; simp⟩
section
variable {bp bh hc cp k : Nat} {vm vo : Value} {ty : TypeId} {o0 o : List Int} {fr tw : Int} {w w' : World} {s : St}
theorem Bd.shown (h : Bd bp bh hc vm vo ty w s) (hw : ∀ x ∈ s.harts, x.Wf) : ShownAt w vm (.slice (some ⟨bh, 0, none⟩) s.harts.length hc) vo s := by
  refine ⟨⟨h.bytes, ?_, _, hc, rfl, h.hcap.1, h.hcap.2, (by intro e; cases e), fun a ha _ => ?_⟩, owns_sl h.own⟩
  · show (s.harts.flatMap hlist).length = s.harts.length * 37
    have : ∀ l : List Hart, (∀ x ∈ l, x.Wf) → (l.flatMap hlist).length = l.length * 37 := fun l => by
      induction l with
      | nil => intro _; rfl
      | cons x r ih =>
        intro hx
        rw [List.flatMap_cons, List.length_append, ih (fun y hy => hx y (by simp [hy])), hlist_length (hx x (by simp)), List.length_cons]
        omega
    exact this _ hw
  · cases ha
    exact ⟨rfl, h.harts⟩
theorem Wk.any (h : Wk bp bh hc cp k vm vo ty o0 o fr tw w s) (x : List Int) : Wk bp bh hc cp k vm vo ty o0 o fr tw w { s with out := x } :=
  ⟨h.core, h.b1, h.b2, h.c0, h.c1, h.c2, h.c3, h.frz, h.harts, h.mlt, h.own, h.vlt, h.kl, h.hcap⟩
end
end Go.Proofs.Ytlfnddmncbkjaaa.Fb
namespace Go.Proofs.Ytlfnddmncbkjaaa.Fb
open Go.RowKit
theorem PB.begin {w : World} {B bp bh hc : Nat} {vm x : Value} {t ty : TypeId} {m : Mach} (b1 : bp < B) (b2 : bp < bh) (c0 : w.cell? ⟨bp, 0, none⟩ = some vm) (c1 : w.cell? ⟨bp, 1, none⟩ = some x) (c2 : w.cell? ⟨bp, 2, none⟩ = some (.slice none 0 0)) (c3 : w.cell? ⟨bp, 3, none⟩ = some (.int .i64 0))
    (frz : ∀ o, w.frozen? ⟨bp, o, none⟩ = false) (hm : w.ownsRow B t 1 vm m.mem.length (m.mem.map (Value.int .u8))) (hvm : ∀ k, vm.ownBlock = some k → k ≠ bh) (hat : At w bh 0 (m.harts.flatMap hlist)) (hlt : bh < w.heap.size) (hfz : ∀ o, w.frozen? ⟨bh, o, none⟩ = false) (hcap : m.harts.length ≤ hc ∧ hc ≤ maxLen) :
    PB bp bh hc vm (.slice none 0 0) ty (w.setCell ⟨bp, 1, none⟩ (.slice (some ⟨bh, 0, none⟩) m.harts.length hc)) (startM m) := by
  have hc : ∀ j, j ≠ 1 → (w.setCell ⟨bp, 1, none⟩ (.slice (some ⟨bh, 0, none⟩) m.harts.length hc)).cell? ⟨bp, j, none⟩ = w.cell? ⟨bp, j, none⟩ := fun j hj => World.cell?_setCell_other _ _ _ _ (by intro e; injection e with _ e2; omega)
  refine ⟨b2, (hc 0 (by omega)).trans c0, World.cell?_setCell_same _ _ _ c1, (hc 2 (by omega)).trans c2, (hc 3 (by omega)).trans c3, fun o => (World.frozen?_setCell _ _ _ _).trans (frz o), hat.set_other (by show bp ≠ bh; omega) _, by simpa using hlt, fun o => (World.frozen?_setCell _ _ _ _).trans (hfz o), ?_, fun _ k e => ⟨?_, hvm k e, by intro e2; cases e2⟩, World.ownsRow_nil _ _ _ _, hcap⟩
  · exact ints_move (by have := owns_sl hm; unfold Ints; exact this) (fun _ g hg => Below.heap_setCell _ _ _ _ (by show g ≠ bp; have := hm.lt g hg; omega))
  · have := hm.lt k e; omega
section
variable {bp bh hc : Nat} {vm vo : Value} {ty : TypeId} {w : World} {s : St}
theorem PB.shown (h : PB bp bh hc vm vo ty w s) (hw : ∀ x ∈ s.harts, x.Wf) : ShownAt w vm (.slice (some ⟨bh, 0, none⟩) s.harts.length hc) vo s := by
  refine ⟨⟨h.bytes, ?_, _, hc, rfl, h.hcap.1, h.hcap.2, (by intro e; cases e), fun a ha _ => ?_⟩, owns_sl h.own⟩
  · exact flatMap_length hlist 37 (fun x hx => hlist_length (hw x hx))
  · cases ha
    exact ⟨rfl, h.harts⟩
theorem PB.hart (h : PB bp bh hc vm vo ty w s) (wf : s.Wf) {k : Nat} (hk : k < s.harts.length) : At w bh (k * 37) (hlist (s.hart k)) := by
  rw [St.hart_at hk]
  exact at_hart h.harts (fun x hx => hlist_length (wf.harts x hx)) hk
end
theorem heap_setCells {b j : Nat} (hj : j ≠ b) : ∀ (vs : List Value) (o : Nat) (w : World), (w.setCells b o vs).heap[j]? = w.heap[j]?
  | [], _, _ => rfl
  | v :: r, o, w => by rw [World.setCells, heap_setCells hj r]; exact Below.heap_setCell _ _ _ _ (by show j ≠ b; exact hj)
theorem at_set_all {w : World} {b o : Nat} {vs : List Value} (h : w.there b o vs.length) : At (w.setCells b o vs) b o vs := fun j hj =>
  World.rangeAt_setCells_same w b o vs h j vs[j] (by simp [hj])
theorem PB.far {bp bh hc b : Nat} {vm vo : Value} {ty : TypeId} {w : World} {s : St} (h : PB bp bh hc vm vo ty w s) (hb : b < bp) (o : Nat) (vs : List Value) : PB bp bh hc vm vo ty (w.setCells b o vs) s := by
  have b1 := h.b1
  have hk : ∀ g, bp ≤ g → (w.setCells b o vs).heap[g]? = w.heap[g]? := fun g hg => heap_setCells (by omega) _ _ _
  exact ⟨h.b1, (cell_block (hk bp (Nat.le_refl _)) _).trans h.c0, (cell_block (hk bp (Nat.le_refl _)) _).trans h.c1, (cell_block (hk bp (Nat.le_refl _)) _).trans h.c2, (cell_block (hk bp (Nat.le_refl _)) _).trans h.c3, fun o => (frozen_block (hk bp (Nat.le_refl _)) o).trans (h.frz o), fun j hj => (cell_block (hk bh (by omega)) _).trans (h.harts j hj), by simpa [size_setCells] using h.hlt, fun o => (frozen_block (hk bh (by omega)) o).trans (h.hfz o), ints_move h.bytes (fun hne g hg => hk g (by have := (h.mlt hne g hg).1; omega)), h.mlt, owns_block h.own (fun g hg => hk g (by have := (h.own.lt g hg).1; omega)), h.hcap⟩
theorem DidOf.lay {w : World} {d : DidD} {c : CoreD} (h : DidOf w d c) (ok : d.Ok) {bd : Nat} (hm : c.m ≠ [] → ∀ g, d.vm.ownBlock = some g → g ≠ bd) (ho : c.out ≠ [] → ∀ g, d.vo.ownBlock = some g → g ≠ bd) (ht : w.there bd 0 41) :
    DidOf (w.setCells bd 0 (dlist d)) d c ∧ At (w.setCells bd 0 (dlist d)) bd 0 (dlist d) :=
  ⟨⟨h.h, ints_move h.m (fun hne g hg => heap_setCells (hm hne g hg) _ _ _), ints_move h.o (fun hne g hg => heap_setCells (ho hne g hg) _ _ _), h.fr, h.many⟩, at_set_all (by rw [dlist_len ok]; exact ht)⟩
end Go.Proofs.Ytlfnddmncbkjaaa.Fb
namespace Go.Proofs.Ytlfnddmncbkjaaa.Fb
open Go.RowKit
theorem patch_bytes {m : List Int} {f : Int} {bs : List Int} (hm : Bytes m) (hb : Bytes bs) : Bytes (patch m f bs) := by
  intro x hx
  unfold patch at hx
  rcases List.mem_append.1 hx with hx | hx
  · rcases List.mem_append.1 hx with hx | hx
    · exact hm x (List.mem_of_mem_take hx)
    · exact hb x hx
  · exact hm x (List.mem_of_mem_drop hx)
theorem reset1_wf {p : Int × Int} {hs : List Hart} (hp : U32 p.2) (hh : ∀ h ∈ hs, h.Wf) : ∀ h ∈ reset1 p hs, h.Wf := by
  have hg : (hs.getD p.1.toNat hart0).Wf := by
    rw [List.getD_eq_getElem?_getD]
    cases e : hs[p.1.toNat]? with
    | none => exact hart0_wf
    | some x => exact hh x (List.mem_of_getElem? e)
  intro h hx
  rcases List.mem_or_eq_of_mem_set hx with hx | rfl
  · exact hh h hx
  · exact ⟨hg.len, hg.regs, hg.pc, hp, hg.state, hg.cause⟩
theorem resets_wf : ∀ (l : List (Int × Int)) {hs : List Hart}, (∀ p ∈ l, U32 p.2) → (∀ h ∈ hs, h.Wf) → ∀ h ∈ resets l hs, h.Wf
  | [], _, _, hh => hh
  | p :: r, hs, hp, hh => resets_wf r (fun q hq => hp q (List.mem_cons_of_mem _ hq)) (reset1_wf (hp p (List.mem_cons_self)) hh)
theorem backOne_wf {u : UndoD} {m : Mach} (hm : m.Wf) (hw : u.was.Wf) (hb : Bytes u.bytes) (hl : ∀ p ∈ u.lost, U32 p.2) : (backOne u m).Wf :=
  ⟨patch_bytes hm.mem hb, resets_wf u.lost hl (fun h hx => by
    rcases List.mem_or_eq_of_mem_set hx with hx | rfl
    · exact hm.harts h hx
    · exact hw)⟩
theorem backL_wf : ∀ (us : List UndoD) {m : Mach}, m.Wf → (∀ u ∈ us, u.was.Wf ∧ Bytes u.bytes ∧ ∀ p ∈ u.lost, U32 p.2) → (backL us m).Wf
  | [], _, hm, _ => hm
  | u :: r, m, hm, h => by
    obtain ⟨h1, h2, h3⟩ := h u (List.mem_cons_self)
    exact backOne_wf (backL_wf r hm (fun x hx => h x (List.mem_cons_of_mem _ hx))) h1 h2 h3
theorem backS_wf {us : List UndoD} {m : Mach} (hm : m.Wf) (h : ∀ u ∈ us, u.was.Wf ∧ Bytes u.bytes ∧ ∀ p ∈ u.lost, U32 p.2) (n : Int) : (backS m us n).1.Wf := by
  have h0 : (⟨[], []⟩ : Mach).Wf := ⟨(by intro x hx; cases hx), (by intro x hx; cases hx)⟩
  unfold backS
  split
  · split
    · split
      · exact h0
      · exact backL_wf _ hm (fun u hu => h u (List.mem_of_mem_drop hu))
    · exact h0
  · exact h0
end Go.Proofs.Ytlfnddmncbkjaaa.Fb
