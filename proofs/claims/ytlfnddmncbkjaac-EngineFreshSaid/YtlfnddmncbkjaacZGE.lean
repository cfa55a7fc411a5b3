import Derived.Test.YtlfnddmncbkjaacZGD
import Derived.Test.YtlfnddmncbkjaacZMB
import Derived.Test.YtlfnddmncbkjaacZGA
set_option linter.unusedVariables false
set_option linter.unusedSimpArgs false
set_option maxRecDepth 100000
set_option maxHeartbeats 4000000
namespace Go.Proofs.Ytlfnddmncbkjaac.Fb
open Go.RowKit
def Mem8 (m : List Int) (c : CoreD) : Prop := c.m = m ∨ ∃ op a x, mStoreOk m op a = true ∧ 0 ≤ a ∧ c.m = mStore m op a x ∧ c.fr = a ∧ c.tw = (a + msize op) % 4294967296
theorem put_mem8 (d : CoreD) (op a x : Int) (ha : 0 ≤ a) : Mem8 d.m (d.put op a x) := by
  unfold CoreD.put
  by_cases c : mStoreOk d.m op a = true
  · rw [if_pos c]; exact .inr ⟨op, a, x, c, ha, rfl, rfl, rfl⟩
  · rw [if_neg c]; exact .inl rfl
theorem ite_mem8 {m : List Int} {c : Prop} [Decidable c] {a b : CoreD} (h1 : c → Mem8 m a) (h2 : ¬ c → Mem8 m b) : Mem8 m (if c then a else b) := by split; exact h1 ‹_›; exact h2 ‹_›
theorem atomS_mem8 (d : CoreD) (op a b : Int) (ha : 0 ≤ a) : Mem8 d.m (atomS d op a b).1 := by
  unfold atomS
  split
  · split
    · exact .inl rfl
    · split
      · split
        · exact put_mem8 d 18 a b ha
        · exact .inl rfl
      · exact put_mem8 d 18 a _ ha
  · exact .inl rfl
theorem callS_m (d : CoreD) : (callS d).1.m = d.m := by
  unfold callS
  split
  · rfl
  · split <;> rfl
theorem doS_mem8 (d : CoreD) (hr : ∀ k, 0 ≤ d.h.reg k) (i : InsD) : Mem8 d.m (doS i d) := by
  unfold doS
  dsimp only
  repeat' (with_reducible refine ite_mem8 (fun _ => ?_) (fun _ => ?_))
  all_goals first
    | exact .inl rfl
    | exact put_mem8 d i.op _ _ (Int.emod_nonneg _ zI)
    | exact atomS_mem8 d i.op (d.h.reg i.rs1) (d.h.reg i.rs2) (hr _)
    | exact .inl (callS_m d)
theorem mLoad_apart {m : List Int} {op a x : Int} (ha : 0 ≤ a) {q : Int} (hq : 0 ≤ q) (h : q + 4 ≤ a ∨ a + msize op ≤ q) (hs : mStoreOk m op a = true) : mLoad (mStore m op a x) 13 q = mLoad m 13 q ∧ mLoadOk (mStore m op a x) 13 q = mLoadOk m 13 q := by
  obtain ⟨h1, h2, h3⟩ := storeOk_range hs
  obtain ⟨k, rfl⟩ := Int.eq_ofNat_of_zero_le ha
  obtain ⟨j, rfl⟩ := Int.eq_ofNat_of_zero_le hq
  have e : mLoadOk (mStore m op k x) 13 j = mLoadOk m 13 j := by unfold mLoadOk; rw [mStore_length]
  refine ⟨?_, e⟩
  by_cases c : mLoadOk m 13 j = true
  · rw [mLoad_13 c, mLoad_13 (by rw [e]; exact c)]
    unfold mStore
    rw [if_pos hs, lay_other _ _ _ _ _ om, lay_other _ _ _ _ _ om, lay_other _ _ _ _ _ om, lay_other _ _ _ _ _ om]
  · unfold mLoad
    rw [if_neg (by rw [e]; exact c), if_neg c]
theorem fetch_apart {m : List Int} {op a x : Int} (ha : 0 ≤ a) {q : Int} (hq : 0 ≤ q) (h : q + 4 ≤ a ∨ a + msize op ≤ q) (hs : mStoreOk m op a = true) : fetchS (mStore m op a x) q = fetchS m q := by
  obtain ⟨e1, e2⟩ := mLoad_apart (x := x) ha hq h hs
  unfold fetchS
  rw [e1, e2]
def Blk8 (m : List Int) : Int → List InsD → Prop
  | _, [] => True
  | p, i :: r => fetchS m p = (i, 0) ∧ (r = [] ∨ lastB i.op = false) ∧ Blk8 m (u32 (p + 4)) r
theorem blk8_keep {m m' : List Int} : ∀ (l : List InsD) (p : Int), 0 ≤ p → p + 4 * l.length ≤ 4096 → (∀ q, p ≤ q → q + 4 ≤ p + 4 * l.length → fetchS m' q = fetchS m q) → Blk8 m p l → Blk8 m' p l
  | [], _, _, _, _, _ => trivial
  | i :: r, p, h0, h1, hk, ⟨b1, b2, b3⟩ => by
    simp only [List.length_cons] at h1 hk
    have e : u32 (p + 4) = p + 4 := by unfold u32; omega
    refine ⟨(hk p om om).trans b1, b2, ?_⟩
    rw [e] at b3 ⊢
    exact blk8_keep r (p + 4) om om (fun q h3 h4 => hk q om om) b3
theorem rowS_blk8 (m : List Int) (hm : m.length ≤ 4096) : ∀ (n : Nat) (p : Int), U32 p → Blk8 m p (rowS m n p) ∧ (rowS m n p ≠ [] → p + 4 * (rowS m n p).length ≤ m.length)
  | 0, _, _ => ⟨trivial, fun h => absurd rfl h⟩
  | n + 1, p, hp => by
    rw [row_step]
    by_cases c : (fetchS m p).2 = 0
    · rw [if_pos c]
      have hok : p + 4 ≤ m.length := by
        by_cases q : mLoadOk m 13 p = true
        · unfold mLoadOk there at q
          simp only [Bool.and_eq_true, decide_eq_true_eq] at q
          exact q.2.2
        · unfold fetchS at c
          rw [if_neg q] at c
          exact absurd c zI
      have hp0 := hp.1
      by_cases hb : lastB (fetchS m p).1.op = true
      · rw [if_pos hb]
        exact ⟨⟨Prod.ext rfl c, .inl rfl, trivial⟩, fun _ => by simp only [List.length_cons, List.length_nil]; omega⟩
      · rw [if_neg hb]
        obtain ⟨i1, i2⟩ := rowS_blk8 m hm n ((p + 4) % 4294967296) (u32_ok _)
        refine ⟨⟨Prod.ext rfl c, .inr (by simpa using hb), i1⟩, fun _ => ?_⟩
        by_cases hr : rowS m n ((p + 4) % 4294967296) = []
        · rw [hr]; simp only [List.length_cons, List.length_nil]; omega
        · have := i2 hr
          simp only [List.length_cons]
          omega
    · rw [if_neg c]
      exact ⟨trivial, fun h => absurd rfl h⟩
structure Eq8 (a b : RunD) : Prop where
  h : a.h = b.h
  m : a.m = b.m
  out : a.out = b.out
  steps : a.steps = b.steps
  stores : a.stores = b.stores
theorem setPc_self {h : Hart} {p : Int} (e : h.pc = p) : h.setPc p = h := by subst e; rfl
theorem pl8_next {pc : Int} (h0 : 0 ≤ pc) {k : Nat} (h1 : pc + 4 * (k : Int) ≤ 4096) : pl8 pc k = pc + 4 * k ∧ pl8 pc (k + 1) = u32 (pl8 pc k + 4) := by
  unfold pl8 u32; omega
theorem steps8_go (pc last st : Int) (h0 : 0 ≤ pc) (hlast : last ≤ 4096) : ∀ (l : List InsD) (k : Nat) (d X : RunD),
    X.h = d.h.setPc (pl8 pc k) → X.m = d.m → X.out = d.out → X.steps = d.steps → X.stores = d.stores → d.over = false → d.own = false → d.temps.length = 4 → d.bf = pc → d.bt = last → X.core0.Wf → X.m.length ≤ 4096 →
    X.h.ok = true → X.h.state = 0 → (d.steps = 0 ∧ d.h.pc = pl8 pc k ∨ 0 < d.steps ∧ u32 (d.here + 4) = pl8 pc k) → 0 ≤ d.steps → d.steps ≤ st → Blk8 X.m (pl8 pc k) l → pc + 4 * k + 4 * l.length = last → (∀ i ∈ l, isS i = true ∧ I32 i.imm) →
    Eq8 (loop8 pc last st l.length k X) (runL st (rowM pc k l) d).fin
  | [], k, d, X, e1, e2, e3, e4, e5, ho, hw, ht, b1, b2, wf, hl, hz, hs, hp, hn, hle, hb, hlen, hi => by
    have key : (runL st (rowM pc k []) d).fin = d.fin := rfl
    rw [key]
    show Eq8 X d.fin
    unfold RunD.fin
    rcases hp with ⟨p1, p2⟩ | ⟨p1, p2⟩
    · rw [if_neg om]
      exact ⟨by rw [e1]; exact setPc_self p2, e2, e3, e4, e5⟩
    · rw [if_pos ⟨ho, p1⟩, p2]
      exact ⟨e1, e2, e3, e4, e5⟩
  | i :: r, k, d, X, e1, e2, e3, e4, e5, ho, hw, ht, b1, b2, wf, hl, hz, hs, hp, hn, hle, hb, hlen, hi => by
    have hok := hz
    replace hz : X.h.regs.getD 0 0 = 0 := ((ok_parts hs).1 hok).1
    simp only [List.length_cons] at hlen
    obtain ⟨f1, f2, f3⟩ := hb
    have hkl : pc + 4 * (k : Int) ≤ 4096 := om
    obtain ⟨q1, q2⟩ := pl8_next h0 hkl
    rw [← q2] at f3
    obtain ⟨p, hpd⟩ : ∃ p, p = pl8 pc k := ⟨_, rfl⟩
    have erow : rowM pc k (i :: r) = ⟨1, 0, 0, 0, p⟩ :: (bodyM i p ++ rowM pc (k + 1) r) := by rw [hpd]; rfl
    rw [erow, runL_cons _ _ ho]
    rw [← hpd] at e1 hp f1 q1 q2
    have elen : (i :: r).length = r.length + 1 := rfl
    rw [elen, loop8]
    by_cases c : d.steps = st
    · have eone : d.one ⟨1, 0, 0, 0, p⟩ st = d.stop p := by
        unfold RunD.one
        rw [if_pos rfl, if_pos (by rw [c]; simp)]
      rw [eone, runL_over rfl, if_neg om]
      have : (d.stop p).fin = d.stop p := by unfold RunD.fin; rw [if_neg (fun h => by have := h.1; exact absurd this (by show ¬ true = false; decide))]
      rw [this]
      exact ⟨e1, e2, e3, e4, e5⟩
    · have eone : d.one ⟨1, 0, 0, 0, p⟩ st = { d with steps := d.steps + 1, here := p } := by
        unfold RunD.one
        rw [if_pos rfl, if_neg (by rw [hw]; simpa using c)]
      rw [eone, if_pos om, runL_append]
      obtain ⟨d1, hd1⟩ : ∃ d1, d1 = { d with steps := d.steps + 1, here := p } := ⟨_, rfl⟩
      rw [← hd1]
      have hXh : X.h = d1.h.setPc p := by rw [hd1]; exact e1
      have hc0 : X.core0 = base8 d1 p := by
        unfold RunD.core0 base8
        rw [hXh, e2, hd1]
      have hregs : d.h.regs = X.h.regs := by rw [e1]; rfl
      have a : At8 d1 p := by
        rw [hd1]
        refine ⟨ho, rfl, ht, ?_, ?_, ?_, ?_, by rw [← e2]; exact hl, ?_⟩
        · have := hs; rw [e1] at this; exact this
        · show d.h.regs.getD 0 0 = 0
          rw [hregs]; exact hz
        · show d.h.regs.length = 32
          rw [hregs]; exact wf.h.len
        · show ∀ x ∈ d.h.regs, U32 x
          rw [hregs]; exact wf.h.regs
        · show d.bf < d.bt
          rw [b1, b2]; omega
      have hi0 := hi i (List.mem_cons_self ..)
      obtain ⟨r1, r2, r3, r4⟩ := isS_regs hi0.1
      have D := body8 a i hi0.1 r1 r2 r3 r4 st
      have hgo : goS X.core0 = doS i (base8 d1 p) := by
        have hpc : X.core0.h.pc = p := by rw [hc0]; rfl
        have hm : X.core0.m = X.m := rfl
        unfold goS
        rw [hpc, hm, f1]
        rw [if_pos rfl]
        have : X.core0.none = base8 d1 p := by rw [hc0]; rfl
        rw [this]
      have hN : next8 X = { X with h := (doS i (base8 d1 p)).h, m := (doS i (base8 d1 p)).m, out := X.out ++ (doS i (base8 d1 p)).out, steps := X.steps + 1, stores := if (doS i (base8 d1 p)).fr < (doS i (base8 d1 p)).tw then X.stores ++ [((doS i (base8 d1 p)).fr, (doS i (base8 d1 p)).tw)] else X.stores } := by unfold next8; rw [hgo]
      have hMem : Mem8 X.m (doS i (base8 d1 p)) := by
        have := doS_mem8 (base8 d1 p) (fun k => by rw [← hc0]; exact (reg_u wf.h k).1) i
        rw [← hc0] at this ⊢
        exact this
      rw [hgo]
      have hWf : (goS X.core0).Wf := goS_wf wf (by show ([] : List Int).length < _; simp)
      have hFin : Fin0 X.core0 (goS X.core0) := goS_fin X.h X.m hok hs
      rw [hgo] at hWf hFin
      obtain ⟨e, he⟩ : ∃ e, e = runL st (bodyM i p) d1 := ⟨_, rfl⟩
      rw [← he] at D ⊢
      generalize doS i (base8 d1 p) = cc at *
      have E1 : Eq8 (next8 X) { e with h := cc.h } := by
        rw [hN]
        refine ⟨rfl, D.m.symm, ?_, ?_, ?_⟩
        · show X.out ++ cc.out = e.out
          rw [D.out, hd1, e3]
        · show X.steps + 1 = e.steps
          rw [D.steps, hd1, e4]
        · show (if cc.fr < cc.tw then _ else _) = e.stores
          rw [D.stores, hd1, e5]
      have hst : e.steps = d.steps + 1 := by rw [D.steps, hd1]
      by_cases co : e.over = true
      · obtain ⟨y1, y2⟩ := D.yes co
        rw [runL_over co]
        have hfin : e.fin = e := by unfold RunD.fin; rw [if_neg (fun h => by rw [co] at h; exact absurd h.1 zI)]
        rw [hfin]
        have E2 : Eq8 (next8 X) e := ⟨E1.h.trans y1.symm, E1.m, E1.out, E1.steps, E1.stores⟩
        by_cases cb : brk8 pc last (pl8 pc (k + 1)) cc = true
        · rw [if_pos cb]; exact E2
        · rw [if_neg cb]
          have hr : r = [] := by
            rcases f2 with h | h
            · exact h
            · rcases y2 with h2 | h2
              · exact absurd (by unfold brk8; rw [show (cc.h.state != 0) = true by simpa using h2]; rfl) cb
              · rw [h] at h2; cases h2
          subst hr
          exact E2
      · have co' : e.over = false := by simpa using co
        obtain ⟨n1, n2⟩ := D.no co'
        have hpcc : cc.h.pc = pl8 pc (k + 1) := by rw [← n1, q2]; rfl
        have ebrk : brk8 pc last (pl8 pc (k + 1)) cc = own8 pc last cc := by
          unfold brk8
          rw [n2, hpcc]
          simp
        rw [ebrk]
        have eown : e.own = own8 pc last cc := by rw [D.own, hd1]; show (d.own || own8 d.bf d.bt cc) = _; rw [hw, b1, b2, Bool.false_or]
        rw [← q2] at n1
        by_cases cw : own8 pc last cc = true
        · rw [if_pos cw]
          rw [cw] at eown
          have E2 : ∀ f : RunD, f.h = cc.h → f.m = e.m → f.out = e.out → f.steps = e.steps → f.stores = e.stores → Eq8 (next8 X) f := fun f g1 g2 g3 g4 g5 => ⟨E1.h.trans g1.symm, E1.m.trans g2.symm, E1.out.trans g3.symm, E1.steps.trans g4.symm, E1.stores.trans g5.symm⟩
          cases r with
          | nil =>
            have ef : (runL st (rowM pc (k + 1) []) e).fin = { e with h := e.h.setPc (u32 (e.here + 4)) } := by
              show e.fin = _
              unfold RunD.fin
              rw [if_pos ⟨co', om⟩]
            rw [ef]
            refine E2 _ ?_ rfl rfl rfl rfl
            show e.h.setPc (u32 (e.here + 4)) = cc.h
            rw [D.here, ← q2]; exact n1
          | cons i' r' =>
            have ef : runL st (rowM pc (k + 1) (i' :: r')) e = e.stop (pl8 pc (k + 1)) := by
              have er : rowM pc (k + 1) (i' :: r') = ⟨1, 0, 0, 0, pl8 pc (k + 1)⟩ :: (bodyM i' (pl8 pc (k + 1)) ++ rowM pc (k + 1 + 1) r') := rfl
              rw [er, runL_cons _ _ co']
              have eo : e.one ⟨1, 0, 0, 0, pl8 pc (k + 1)⟩ st = e.stop (pl8 pc (k + 1)) := by
                unfold RunD.one
                rw [if_pos rfl, if_pos (by rw [eown]; simp)]
              rw [eo, runL_over rfl]
            rw [ef]
            have : (e.stop (pl8 pc (k + 1))).fin = e.stop (pl8 pc (k + 1)) := by unfold RunD.fin; rw [if_neg (fun h => by have := h.1; exact absurd this (by show ¬ true = false; decide))]
            rw [this]
            exact E2 _ n1 rfl rfl rfl rfl
        · rw [if_neg cw]
          have cw' : own8 pc last cc = false := by simpa using cw
          rw [cw'] at eown
          have hok2 := hFin.ok
          refine steps8_go pc last st h0 hlast r (k + 1) e (next8 X) ?_ E1.m E1.out E1.steps E1.stores co' eown D.tl (by rw [D.bf, hd1]; exact b1) (by rw [D.bt, hd1]; exact b2) ?_ ?_ ?_ ?_ (.inr ⟨om, by rw [D.here, ← q2]⟩) om om ?_ (by push_cast; omega) (fun j hj => hi j (List.mem_cons_of_mem _ hj))
          · rw [E1.h]; exact n1.symm
          · rw [hN]
            exact ⟨hWf.h, hWf.m, yA, u32_0, u32_0, hWf.mlen, by show ([] : List Int).length ≤ _; simp⟩
          · rw [hN]; show cc.m.length ≤ 4096
            rw [hFin.ml]; exact hl
          · rw [hN]; exact hok2
          · rw [hN]; exact n2
          · rw [hN]
            show Blk8 cc.m (pl8 pc (k + 1)) r
            have epn : pl8 pc (k + 1) = pc + 4 * k + 4 := by rw [q2, q1]; unfold u32; omega
            refine blk8_keep r _ om om (fun q g1 g2 => ?_) f3
            rcases hMem with g3 | ⟨op, a', x, g3, g4, g5, g6, g7⟩
            · rw [g3]
            · rw [g5]
              obtain ⟨t1, t2, t3⟩ := storeOk_range g3
              refine fetch_apart g4 om ?_ g3
              unfold own8 at cw'
              rw [g6, g7, Int.emod_eq_of_lt om om, decide_eq_true om, Bool.true_and, Bool.and_eq_false_iff, decide_eq_false_iff_not, decide_eq_false_iff_not] at cw'
              omega
theorem blk8_row {m : List Int} : ∀ (l : List InsD) (n : Nat) (p : Int), l.length ≤ n → Blk8 m p l → (rowS m n p).take l.length = l
  | [], _, _, _, _ => rfl
  | i :: r, 0, _, h, _ => absurd h zD
  | i :: r, n + 1, p, h, ⟨b1, b2, b3⟩ => by
    rw [row_step, b1, if_pos rfl]
    simp only [List.length_cons, List.take_succ_cons]
    congr 1
    rcases b2 with e | e
    · subst e; rfl
    · rw [if_neg (by rw [e]; decide)]
      exact blk8_row r n _ (by simpa using h) b3
theorem blk8_make {m : List Int} {l : List InsD} {p : Int} (hm : m.length ≤ 4096) (h : Blk8 m p l) (hl : l.length ≤ 16) : (makeS m p).2.take l.length = l ∧ l.length ≤ (makeS m p).2.length := by
  have e := blk8_row l 16 p hl h
  have e2 : (makeS m p).2 = rowS m 16 p := by unfold makeS; rw [if_neg om]
  rw [e2]
  refine ⟨e, ?_⟩
  have := congrArg List.length e
  rw [List.length_take] at this
  omega
structure Kept (m : List Int) (pc : Int) (l : List InsD) : Prop where
  ne : l ≠ []
  len : l.length ≤ 16
  pos : 0 ≤ pc
  fits : pc + 4 * l.length ≤ m.length
  blk : Blk8 m pc l
  is : ∀ i ∈ l, isS i = true ∧ I32 i.imm
theorem kept_make {m : List Int} (hm : m.length ≤ 4096) {pc : Int} (hp : U32 pc) (hne : (makeS m pc).2 ≠ []) : Kept m pc (makeS m pc).2 := by
  have hi := makeS_is m pc
  have e : (makeS m pc).2 = rowS m 16 pc := by unfold makeS; rw [if_neg om]
  obtain ⟨h1, h2⟩ := rowS_blk8 m hm 16 pc hp
  rw [e] at hne hi ⊢
  exact ⟨hne, rowS_len m 16 pc, hp.1, h2 hne, h1, hi⟩
theorem Kept.store {m : List Int} (hm : m.length ≤ 4096) {pc : Int} {l : List InsD} (h : Kept m pc l) {op a x : Int} (ha : 0 ≤ a) (hs : mStoreOk m op a = true) (hf : pc + 4 * l.length ≤ a ∨ a + msize op ≤ pc) : Kept (mStore m op a x) pc l := by
  have h1 := h.pos
  have h2 := h.fits
  exact ⟨h.ne, h.len, h.pos, by rw [mStore_length]; exact h.fits, blk8_keep l pc h.pos om (fun q g1 g2 => fetch_apart ha om om hs) h.blk, h.is⟩
def loseAll (k : Nat) : List (Int × Int) → List Hart → List Hart
  | [], hs => hs
  | p :: r, hs => loseAll k r (loseTo k p.1 p.2 hs.length hs)
theorem loseTo_set (k : Nat) (fr tw : Int) (hs : List Hart) (h : Hart) : loseTo k fr tw (hs.set k h).length (hs.set k h) = (loseTo k fr tw hs.length hs).set k h := by
  apply List.ext_getElem
  · simp [loseTo_len]
  · intro i h1 h2
    have hi : i < hs.length := by rw [loseTo_len, List.length_set] at h1; exact h1
    rw [loseTo_get _ _ _ _ _ _ (by rw [List.length_set]; exact hi), List.getElem_set, List.getElem_set]
    by_cases e : k = i
    · subst e; rw [if_neg (fun h => h.2 rfl), if_pos rfl, if_pos rfl]
    · rw [if_neg e, if_neg e, loseTo_get _ _ _ _ _ _ hi]
      simp only [List.length_set]
theorem loseAll_set (k : Nat) (h : Hart) : ∀ (l : List (Int × Int)) (hs : List Hart), loseAll k l (hs.set k h) = (loseAll k l hs).set k h
  | [], _ => rfl
  | p :: r, hs => by
    rw [loseAll, loseAll, loseTo_set, loseAll_set k h r]
theorem loseAll_len (k : Nat) : ∀ (l : List (Int × Int)) (hs : List Hart), (loseAll k l hs).length = hs.length
  | [], _ => rfl
  | p :: r, hs => by rw [loseAll, loseAll_len k r, loseTo_len]
theorem loseAll_append (k : Nat) : ∀ (a b : List (Int × Int)) (hs : List Hart), loseAll k (a ++ b) hs = loseAll k b (loseAll k a hs)
  | [], _, _ => rfl
  | p :: r, b, hs => by rw [List.cons_append, loseAll, loseAll, loseAll_append k r b]
theorem loseAll_mem (k : Nat) {P : Hart → Prop} (hl : ∀ fr tw h, P h → P (lose fr tw h)) : ∀ (l : List (Int × Int)) (hs : List Hart), (∀ h ∈ hs, P h) → ∀ h ∈ loseAll k l hs, P h
  | [], _, hp => hp
  | p :: r, hs, hp => loseAll_mem k hl r _ (fun h hh => by
    obtain ⟨i, hi, rfl⟩ := List.getElem_of_mem hh
    have hi' : i < hs.length := by rw [loseTo_len] at hi; exact hi
    rw [loseTo_get _ _ _ _ _ _ hi']
    split
    · exact hl _ _ _ (hp _ (List.getElem_mem hi'))
    · exact hp _ (List.getElem_mem hi'))
theorem lose_none {h : Hart} (wf : h.Wf) : lose 0 0 h = h := by
  unfold lose
  have := wf.heldAt.1
  rw [decide_eq_false (show ¬ h.heldAt < 0 by omega)]
  simp
theorem loseTo_none (k : Nat) (hs : List Hart) (wf : ∀ h ∈ hs, h.Wf) : loseTo k 0 0 hs.length hs = hs := by
  apply List.ext_getElem
  · exact loseTo_len _ _ _ _ _
  · intro i h1 h2
    rw [loseTo_get _ _ _ _ _ _ h2]
    split
    · exact lose_none (wf _ (List.getElem_mem h2))
    · rfl
def outSt (s : St) (k : Nat) (X : RunD) : St := ⟨loseAll k X.stores (s.harts.set k X.h), X.m, s.out ++ X.out, s.steps + X.steps.toNat⟩
theorem outSt_hart {s : St} {k : Nat} (hk : k < s.harts.length) (X : RunD) : (outSt s k X).hart k = X.h := by
  have e : loseAll k X.stores (s.harts.set k X.h) = (loseAll k X.stores s.harts).set k X.h := loseAll_set k X.h _ _
  have hl : k < (outSt s k X).harts.length := by
    show k < (loseAll k X.stores (s.harts.set k X.h)).length
    rw [loseAll_len, List.length_set]; exact hk
  rw [St.hart_at hl]
  show (loseAll k X.stores (s.harts.set k X.h))[k]'hl = X.h
  simp only [e, List.getElem_set_self]
theorem outSt_go {s : St} (wf : s.Wf) {k : Nat} (hk : k < s.harts.length) {X : RunD} (wx : X.core0.Wf) (hm : X.m.length ≤ 4096) (h0 : 0 ≤ X.steps) : goM k (outSt s k X) = outSt s k (next8 X) := by
  have hX := outSt_hart hk X
  have hrg : Rng (goS X.core0) := goS_rng X.h wx.h X.m hm
  unfold goM
  rw [hX]
  have e0 : (⟨X.h, (outSt s k X).mem, [], 0, 0⟩ : CoreD) = X.core0 := rfl
  rw [e0]
  unfold outSt next8
  dsimp only
  rw [← loseAll_set k (goS X.core0).h, List.set_set, List.append_assoc]
  have es : s.steps + X.steps.toNat + 1 = s.steps + (X.steps + 1).toNat := om
  rw [es]
  congr 1
  have hw : ∀ h ∈ loseAll k X.stores (s.harts.set k (goS X.core0).h), h.Wf := loseAll_mem k (fun _ _ _ h => lose_wf h) _ _ (fun h hh => by
    rcases List.mem_or_eq_of_mem_set hh with h1 | h1
    · exact wf.harts h h1
    · rw [h1]; exact (goS_wf wx (by show ([] : List Int).length < _; simp)).h)
  by_cases c : (goS X.core0).fr < (goS X.core0).tw
  · rw [if_pos c, loseAll_append]
    show loseTo k _ _ (loseAll k X.stores (s.harts.set k X.h)).length _ = loseAll k [_] _
    rw [loseAll, loseAll, loseAll_len, loseAll_len, List.length_set, List.length_set]
  · rw [if_neg c]
    have e1 : (goS X.core0).fr = 0 ∧ (goS X.core0).tw = 0 := by
      rcases hrg with ⟨h1, h2⟩ | ⟨h1, h2, h3⟩
      · exact ⟨h1, h2⟩
      · exact absurd h2 c
    rw [e1.1, e1.2]
    have := loseTo_none k _ hw
    rw [loseAll_len, List.length_set] at this ⊢
    exact this
theorem next8_wf {X : RunD} (wx : X.core0.Wf) : (next8 X).core0.Wf := by
  have h2 : (goS X.core0).Wf := goS_wf wx (by show ([] : List Int).length < _; simp)
  exact ⟨h2.h, h2.m, yA, u32_0, u32_0, h2.mlen, by show ([] : List Int).length ≤ _; simp⟩
theorem next8_ml (X : RunD) : (next8 X).m.length = X.m.length := goS_ml X.core0
theorem outSt_loop {s : St} (wf : s.Wf) {k : Nat} (hk : k < s.harts.length) (bf bt left : Int) : ∀ (n kk : Nat) (X : RunD), X.core0.Wf → X.m.length ≤ 4096 → 0 ≤ X.steps → X.h.state = 0 →
    pickM k (left.toNat - X.steps.toNat) (outSt s k X) = pickM k (left.toNat - (loop8 bf bt left n kk X).steps.toNat) (outSt s k (loop8 bf bt left n kk X)) ∧ (loop8 bf bt left n kk X).core0.Wf ∧ (loop8 bf bt left n kk X).m.length ≤ 4096 ∧ X.steps ≤ (loop8 bf bt left n kk X).steps ∧ (0 < n → X.steps < left → X.steps < (loop8 bf bt left n kk X).steps) ∧ (X.steps ≤ left → (loop8 bf bt left n kk X).steps ≤ left)
  | 0, kk, X, wx, hm, h0, _ => ⟨rfl, wx, hm, Int.le_refl _, fun h => absurd h om, fun h => h⟩
  | n + 1, kk, X, wx, hm, h0, hs => by
    unfold loop8
    by_cases c : X.steps < left
    · rw [if_pos c]
      have hh := outSt_hart hk X
      have hg := outSt_go wf hk wx hm h0
      have hst : (next8 X).steps = X.steps + 1 := rfl
      have e1 : left.toNat - X.steps.toNat = (left.toNat - (next8 X).steps.toNat) + 1 := by rw [hst]; omega
      have e2 : pickM k (left.toNat - X.steps.toNat) (outSt s k X) = pickM k (left.toNat - (next8 X).steps.toNat) (outSt s k (next8 X)) := by
        rw [e1, pickM, hh, if_pos hs, hg]
      by_cases b : brk8 bf bt (pl8 bf (kk + 1)) (goS X.core0) = true
      · rw [if_pos b]
        exact ⟨e2, next8_wf wx, by rw [next8_ml]; exact hm, by rw [hst]; omega, fun _ _ => by rw [hst]; omega, fun _ => by rw [hst]; omega⟩
      · rw [if_neg b]
        have b' : brk8 bf bt (pl8 bf (kk + 1)) (goS X.core0) = false := by simpa using b
        have hs' : (next8 X).h.state = 0 := by
          unfold brk8 at b'
          simp only [Bool.or_eq_false_iff, bne_eq_false_iff_eq] at b'
          exact b'.1.1
        obtain ⟨i1, i2, i3, i4, i5, i6⟩ := outSt_loop wf hk bf bt left n (kk + 1) (next8 X) (next8_wf wx) (by rw [next8_ml]; exact hm) (by rw [hst]; omega) hs'
        exact ⟨e2.trans i1, i2, i3, by rw [hst] at i4; omega, fun _ _ => by rw [hst] at i4; omega, fun h => i6 (by rw [hst]; omega)⟩
    · rw [if_neg c]
      exact ⟨rfl, wx, hm, Int.le_refl _, fun _ h => absurd h c, fun h => h⟩
theorem kept_mk {m : List Int} {pc : Int} {l : List InsD} (h : Kept m pc l) : mkM pc l = rowM pc 0 l := by
  unfold mkM
  rw [if_neg]
  rintro (h2 | h2)
  · have := h.len; omega
  · have : l.all isS = true := List.all_eq_true.2 (fun i hi' => (h.is i hi').1)
    rw [this] at h2; cases h2
theorem steps8_kept {d : RunD} {pc bt left : Int} {l : List InsD} (K : Kept d.m pc l) (hpc : d.h.pc = pc) (wf : d.core0.Wf) (hm : d.m.length ≤ 4096) (hok : d.h.ok = true) (hs : d.h.state = 0) (ho : d.over = false) (hw : d.own = false) (ht : d.temps.length = 4) (hb : d.bf = pc) (hbt : bt = u32 (pc + 4 * (l.length : Int))) (hbt2 : d.bt = bt) (hst : d.steps = 0) (h0 : 0 ≤ left) :
    Eq8 (loop8 pc bt left l.length 0 d) (runL left (mkM pc l) d).fin := by
  have h1 := K.pos
  have h2 := K.fits
  have hu : bt = pc + 4 * l.length := by rw [hbt]; unfold u32; omega
  have hpl : pl8 pc 0 = pc := by unfold pl8 u32; omega
  rw [kept_mk K]
  exact steps8_go pc bt left h1 om l 0 d d (by rw [hpl]; exact (setPc_self hpc).symm) rfl rfl rfl rfl ho hw ht hb hbt2 wf hm hok hs (.inl ⟨hst, by rw [hpl]; exact hpc⟩) om om (by rw [hpl]; exact K.blk) (by rw [hu]; simp) K.is
theorem goS_mem8 {d : CoreD} (wf : d.Wf) : Mem8 d.m (goS d) := by
  unfold goS
  split
  · exact doS_mem8 d.none (fun k => (reg_u wf.h k).1) _
  · exact .inl rfl
theorem loop8_fetch (bf bt left : Int) : ∀ (n kk : Nat) (X : RunD), X.core0.Wf → X.m.length ≤ 4096 →
    ∃ new, (loop8 bf bt left n kk X).stores = X.stores ++ new ∧ (∀ p ∈ new, 0 ≤ p.1 ∧ p.1 < p.2 ∧ p.2 ≤ 4096) ∧ ∀ q, 0 ≤ q → (∀ p ∈ new, q + 4 ≤ p.1 ∨ p.2 ≤ q) → fetchS (loop8 bf bt left n kk X).m q = fetchS X.m q
  | 0, _, X, _, _ => ⟨[], (List.append_nil _).symm, (by intro p hp; cases hp), fun _ _ _ => rfl⟩
  | n + 1, kk, X, wx, hm => by
    have one : ∃ new, (next8 X).stores = X.stores ++ new ∧ (∀ p ∈ new, 0 ≤ p.1 ∧ p.1 < p.2 ∧ p.2 ≤ 4096) ∧ ∀ q, 0 ≤ q → (∀ p ∈ new, q + 4 ≤ p.1 ∨ p.2 ≤ q) → fetchS (next8 X).m q = fetchS X.m q := by
      have hrg : Rng (goS X.core0) := goS_rng X.h wx.h X.m hm
      have hml : (goS X.core0).m.length = X.m.length := goS_ml X.core0
      by_cases c : (goS X.core0).fr < (goS X.core0).tw
      · refine ⟨[((goS X.core0).fr, (goS X.core0).tw)], by unfold next8; rw [if_pos c], fun p hp => ?_, fun q hq hp => ?_⟩
        · rw [List.mem_singleton] at hp
          subst hp
          rcases hrg with ⟨h1, h2⟩ | ⟨h1, h2, h3⟩
          · omega
          · exact ⟨h1, h2, by rw [hml] at h3; omega⟩
        · have hp2 := hp _ (List.mem_singleton.2 rfl)
          rcases goS_mem8 wx with g | ⟨op, a, x, g3, g4, g5, g6, g7⟩
          · show fetchS (goS X.core0).m q = _
            rw [g]; rfl
          · show fetchS (goS X.core0).m q = _
            obtain ⟨t1, t2, t3⟩ := storeOk_range g3
            have t4 : a + msize op ≤ X.m.length := t3
            rw [g5]
            refine fetch_apart g4 hq ?_ g3
            rw [g6, g7, Int.emod_eq_of_lt om om] at hp2
            exact hp2
      · refine ⟨[], by unfold next8; rw [if_neg c, List.append_nil], (by intro p hp; cases hp), fun q hq _ => ?_⟩
        rcases goS_mem8 wx with g | ⟨op, a, x, g3, g4, g5, g6, g7⟩
        · show fetchS (goS X.core0).m q = _
          rw [g]; rfl
        · obtain ⟨t1, t2, t3⟩ := storeOk_range g3
          have t4 : a + msize op ≤ X.m.length := t3
          rw [g6, g7, Int.emod_eq_of_lt om om] at c
          omega
    obtain ⟨nw, o1, o2, o3⟩ := one
    unfold loop8
    split
    · split
      · exact ⟨nw, o1, o2, o3⟩
      · obtain ⟨nw2, r1, r2, r3⟩ := loop8_fetch bf bt left n (kk + 1) (next8 X) (next8_wf wx) (by rw [next8_ml]; exact hm)
        refine ⟨nw ++ nw2, by rw [r1, o1, List.append_assoc], fun p hp => (List.mem_append.1 hp).elim (o2 p) (r2 p), fun q hq hp => ?_⟩
        exact (r3 q hq (fun p h => hp p (List.mem_append_right _ h))).trans (o3 q hq (fun p h => hp p (List.mem_append_left _ h)))
    · exact ⟨[], (List.append_nil _).symm, (by intro p hp; cases hp), fun _ _ _ => rfl⟩
theorem Kept.apart {m m' : List Int} {pc : Int} {l : List InsD} (h : Kept m pc l) (hl : m'.length = m.length) (hm : m.length ≤ 4096) (hf : ∀ q, pc ≤ q → q + 4 ≤ pc + 4 * l.length → fetchS m' q = fetchS m q) : Kept m' pc l := by
  have h2 := h.fits
  exact ⟨h.ne, h.len, h.pos, by rw [hl]; exact h2, blk8_keep l pc h.pos om hf h.blk, h.is⟩
structure EngOk (m : List Int) (room : Int) (bl : List BlkD) : Prop where
  room0 : 0 ≤ room
  room1 : room ≤ 64
  len : (bl.length : Int) ≤ room
  nodup : (pcs bl).Nodup
  kept : ∀ x ∈ bl, Kept m x.pc x.ins
theorem EngOk.ins {m : List Int} {room : Int} {bl : List BlkD} (h : EngOk m room bl) : ∀ x ∈ bl, x.ins.length ≤ 16 := fun x hx => (h.kept x hx).len
theorem putL_mem {room : Int} {l : List BlkD} {y x : BlkD} (h : x ∈ putL room l y) : x ∈ l ∨ x = y := by
  have key : x ∈ dq (placeI l y.pc) l ++ [y] := by
    unfold putL at h
    split at h
    · exact List.mem_of_mem_drop h
    · exact h
  rcases List.mem_append.1 key with h1 | h1
  · exact .inl (dq_mem h1)
  · exact .inr (by simpa using h1)
theorem EngOk.put {m : List Int} {room : Int} {bl : List BlkD} (h : EngOk m room bl) {y : BlkD} (hy : Kept m y.pc y.ins) : EngOk m room (putL room bl y) := by
  obtain ⟨h1, h2, h3, -⟩ := putL_keeps h.room0 h.len h.nodup h.ins (y := y) hy.len
  refine ⟨h.room0, h.room1, h2, h1, fun x hx => ?_⟩
  rcases putL_mem hx with h4 | rfl
  · exact h.kept x h4
  · exact hy
def staleAll : List (Int × Int) → List BlkD → List BlkD
  | [], bl => bl
  | p :: r, bl => staleAll r (bl.filter (fun x => !staleB p.1 p.2 x))
theorem staleAll_sub : ∀ (st : List (Int × Int)) (bl : List BlkD), (staleAll st bl).Sublist bl
  | [], _ => List.Sublist.refl _
  | p :: r, bl => (staleAll_sub r _).trans List.filter_sublist
theorem staleAll_mem : ∀ (st : List (Int × Int)) (bl : List BlkD) (x : BlkD), x ∈ staleAll st bl → x ∈ bl ∧ ∀ p ∈ st, staleB p.1 p.2 x = false
  | [], _, _, h => ⟨h, (by intro p hp; cases hp)⟩
  | p :: r, bl, x, h => by
    obtain ⟨h1, h2⟩ := staleAll_mem r _ x h
    rw [List.mem_filter] at h1
    refine ⟨h1.1, fun q hq => ?_⟩
    rcases List.mem_cons.1 hq with rfl | hq
    · simpa using h1.2
    · exact h2 q hq
theorem EngOk.run {m m' : List Int} {room : Int} {bl : List BlkD} (h : EngOk m room bl) (st : List (Int × Int)) (hl : m'.length = m.length) (hm : m.length ≤ 4096) (hp : ∀ p ∈ st, 0 ≤ p.1 ∧ p.1 < p.2 ∧ p.2 ≤ 4096)
    (hf : ∀ q, 0 ≤ q → (∀ p ∈ st, q + 4 ≤ p.1 ∨ p.2 ≤ q) → fetchS m' q = fetchS m q) : EngOk m' room (staleAll st bl) := by
  have hsub := staleAll_sub st bl
  refine ⟨h.room0, h.room1, by have := hsub.length_le; have := h.len; omega, pcs_sub hsub h.nodup, fun x hx => ?_⟩
  obtain ⟨h1, h2⟩ := staleAll_mem st bl x hx
  have k := h.kept x h1
  have k1 := k.pos
  refine k.apart hl hm (fun q g1 g2 => hf q om (fun p hq => ?_))
  have h3 := h2 p hq
  have h4 := hp p hq
  unfold staleB hasB at h3
  rw [decide_eq_false_iff_not] at h3
  omega
theorem loop8_pick {s : St} (wf : s.Wf) {k : Nat} (hk : k < s.harts.length) (bf bt left : Int) : ∀ (n kk : Nat) (X : RunD), X.core0.Wf → X.m.length ≤ 4096 → 0 ≤ X.steps → X.h.state = 0 →
    ∃ j : Nat, outSt s k (loop8 bf bt left n kk X) = pickM k j (outSt s k X) ∧ (loop8 bf bt left n kk X).steps = X.steps + j
  | 0, kk, X, wx, hm, h0, _ => ⟨0, rfl, by show X.steps = _; omega⟩
  | n + 1, kk, X, wx, hm, h0, hs => by
    unfold loop8
    by_cases c : X.steps < left
    · rw [if_pos c]
      have hh := outSt_hart hk X
      have hg := outSt_go wf hk wx hm h0
      have hst : (next8 X).steps = X.steps + 1 := rfl
      have e2 : ∀ j, pickM k (j + 1) (outSt s k X) = pickM k j (outSt s k (next8 X)) := fun j => by
        rw [pickM, hh, if_pos hs, hg]
      by_cases b : brk8 bf bt (pl8 bf (kk + 1)) (goS X.core0) = true
      · rw [if_pos b]
        exact ⟨1, (e2 0).symm, hst⟩
      · rw [if_neg b]
        have b' : brk8 bf bt (pl8 bf (kk + 1)) (goS X.core0) = false := by simpa using b
        have hs' : (next8 X).h.state = 0 := by
          unfold brk8 at b'
          simp only [Bool.or_eq_false_iff, bne_eq_false_iff_eq] at b'
          exact b'.1.1
        obtain ⟨j, i1, i2⟩ := loop8_pick wf hk bf bt left n (kk + 1) (next8 X) (next8_wf wx) (by rw [next8_ml]; exact hm) (by rw [hst]; omega) hs'
        exact ⟨j + 1, i1.trans (e2 j).symm, by rw [i2, hst]; omega⟩
    · rw [if_neg c]
      exact ⟨0, rfl, om⟩
theorem loop8_ml (bf bt left : Int) : ∀ (n kk : Nat) (X : RunD), (loop8 bf bt left n kk X).m.length = X.m.length
  | 0, _, _ => rfl
  | n + 1, kk, X => by
    unfold loop8
    split
    · split
      · exact next8_ml X
      · rw [loop8_ml bf bt left n (kk + 1) (next8 X), next8_ml]
    · rfl
theorem set_hart {s : St} {k : Nat} (hk : k < s.harts.length) : s.harts.set k (s.hart k) = s.harts := by
  rw [St.hart_at hk]; exact List.set_getElem_self hk
def runB (h : Hart) (m o : List Int) (bf bt : Int) : RunD := { run0 h m bf bt with out := o }
def runE (h : Hart) (m o : List Int) (bf bt : Int) : RunD := { run0 h m bf bt with out := o, here := 0 }
theorem runE_wf {h : Hart} {m o : List Int} {bf bt : Int} (wf : h.Wf) (hb : Bytes m) (hl : m.length ≤ 4096) (ho : ∀ x ∈ o, U32 x) (h1 : U32 bf) (h2 : U32 bt) : (runE h m o bf bt).Wf :=
  { run0_wf wf hb om h1 h2 with out := ho, here := u32_0 }
theorem block_turn {s1 : St} (g : s1.Good) {k : Nat} (hk : k < s1.harts.length) (hst : (s1.hart k).state = 0) {l : List InsD} (K : Kept s1.mem (s1.hart k).pc l) {left : Nat} (hl : 0 < left) {o0 o : List Int} (ho : s1.out = o0 ++ o)
    (X : RunD) (hX : X = (runL left (mkM (s1.hart k).pc l) (runB (s1.hart k) s1.mem o (s1.hart k).pc (u32 ((s1.hart k).pc + 4 * (l.length : Int))))).fin) :
    ∃ j : Nat, X.steps = j ∧ 1 ≤ j ∧ j ≤ left ∧ (⟨loseAll k X.stores (s1.harts.set k X.h), X.m, o0 ++ X.out, s1.steps + j⟩ : St) = pickM k j s1 ∧ (∀ p ∈ X.stores, 0 ≤ p.1 ∧ p.1 < p.2 ∧ p.2 ≤ 4096) ∧ (∀ room zs, EngOk s1.mem room zs → EngOk X.m room (staleAll X.stores zs)) ∧ X.m.length = s1.mem.length := by
  have hm := g.wf.mlen
  obtain ⟨d, hd⟩ : ∃ d, d = (runB (s1.hart k) s1.mem o (s1.hart k).pc (u32 ((s1.hart k).pc + 4 * (l.length : Int)))) := ⟨_, rfl⟩
  rw [← hd] at hX
  have d1 : d.h = s1.hart k := by rw [hd]; rfl
  have d2 : d.m = s1.mem := by rw [hd]; rfl
  have d3 : d.out = o := by rw [hd]; rfl
  have d4 : d.steps = 0 := by rw [hd]; rfl
  have d5 : d.stores = [] := by rw [hd]; rfl
  have wf0 : d.core0.Wf := by
    have h1 : (s1.hart k).Wf := g.wf.hart k
    refine ⟨by rw [show d.core0.h = d.h from rfl, d1]; exact h1, by rw [show d.core0.m = d.m from rfl, d2]; exact g.wf.mem, yA, u32_0, u32_0, by rw [show d.core0.m = d.m from rfl, d2]; omega, by show ([] : List Int).length ≤ _; simp⟩
  have E := steps8_kept (d := d) (pc := (s1.hart k).pc) (bt := u32 ((s1.hart k).pc + 4 * (l.length : Int))) (left := left) (l := l) (by rw [d2]; exact K) (by rw [d1]) wf0 (by rw [d2]; exact hm) (by rw [d1]; exact g.hart k) (by rw [d1]; exact hst) (by rw [hd]; rfl) (by rw [hd]; rfl) (by rw [hd]; rfl) (by rw [hd]; rfl) rfl (by rw [hd]; rfl) d4 om
  rw [← hX] at E
  obtain ⟨L, hL⟩ : ∃ L, L = loop8 (s1.hart k).pc (u32 ((s1.hart k).pc + 4 * (l.length : Int))) left l.length 0 d := ⟨_, rfl⟩
  have hml := loop8_ml (s1.hart k).pc (u32 ((s1.hart k).pc + 4 * (l.length : Int))) left l.length 0 d
  have hwf : ({ s1 with out := o0 } : St).Wf := ⟨g.wf.harts, g.wf.mem, g.wf.mlen, fun x hx => g.wf.out x (by rw [ho]; exact List.mem_append_left _ hx)⟩
  obtain ⟨j, j1, j2⟩ := loop8_pick (s := { s1 with out := o0 }) hwf hk (s1.hart k).pc (u32 ((s1.hart k).pc + 4 * (l.length : Int))) left l.length 0 d wf0 (by rw [d2]; exact hm) (by rw [d4]; exact Int.le_refl _) (by rw [d1]; exact hst)
  obtain ⟨-, -, -, q4, q5, q6⟩ := outSt_loop (s := { s1 with out := o0 }) hwf hk (s1.hart k).pc (u32 ((s1.hart k).pc + 4 * (l.length : Int))) left l.length 0 d wf0 (by rw [d2]; exact hm) (by rw [d4]; exact Int.le_refl _) (by rw [d1]; exact hst)
  obtain ⟨nw, f1, f2, f3⟩ := loop8_fetch (s1.hart k).pc (u32 ((s1.hart k).pc + 4 * (l.length : Int))) left l.length 0 d wf0 (by rw [d2]; exact hm)
  rw [← hL] at E j1 j2 q5 q6 f1 f3 hml
  rw [d4] at j2 q5 q6
  rw [d5, List.nil_append] at f1
  rw [d2] at hml f3
  have hlen : 0 < l.length := List.length_pos_iff.2 K.ne
  have hs0 : outSt { s1 with out := o0 } k d = s1 := by
    unfold outSt
    rw [d1, d2, d3, d4, d5, ← ho]
    show (⟨s1.harts.set k (s1.hart k), s1.mem, s1.out, s1.steps + 0⟩ : St) = s1
    rw [set_hart hk]
    rfl
  rw [hs0] at j1
  have e5 := q5 hlen om
  have e6 := q6 om
  refine ⟨j, by rw [← E.steps, j2]; omega, om, om, ?_, fun p hp => f2 p (by rw [← f1, E.stores]; exact hp), fun room zs hz => ?_, by rw [← E.m]; exact hml⟩
  · rw [← j1, ← E.stores, ← E.h, ← E.m, ← E.out]
    unfold outSt
    congr 1
    show s1.steps + j = s1.steps + L.steps.toNat
    rw [j2]; omega
  · rw [← E.stores, ← E.m]
    exact hz.run L.stores hml hm (by rw [f1]; exact f2) (fun q hq hp => f3 q hq (by rw [← f1]; exact hp))
theorem trap_turn {s : St} {k : Nat} (hk : k < s.harts.length) (hm : s.mem.length ≤ 4096) (he : (makeS s.mem (s.hart k).pc).2 = []) : ((goM k s).hart k).state ≠ 0 := by
  have e2 : (makeS s.mem (s.hart k).pc).2 = rowS s.mem 16 (s.hart k).pc := by unfold makeS; rw [if_neg om]
  rw [e2, row_step] at he
  have hf : ¬ (fetchS s.mem (s.hart k).pc).2 = 0 := fun e => by rw [if_pos e] at he; cases he
  have hh : (goM k s).hart k = (goS (⟨s.hart k, s.mem, [], 0, 0⟩ : CoreD)).h := by
    obtain ⟨c, hc⟩ : ∃ c, c = goS (⟨s.hart k, s.mem, [], 0, 0⟩ : CoreD) := ⟨_, rfl⟩
    have hl : k < (loseTo k c.fr c.tw s.harts.length (s.harts.set k c.h)).length := by rw [loseTo_len, List.length_set]; exact hk
    have e : (goM k s).hart k = (loseTo k c.fr c.tw s.harts.length (s.harts.set k c.h)).getD k hart0 := by rw [hc]; rfl
    rw [e, List.getD, List.getElem?_eq_getElem hl, ← hc]
    show (loseTo k c.fr c.tw s.harts.length (s.harts.set k c.h))[k]'hl = _
    rw [loseTo_get _ _ _ _ _ _ (by rw [List.length_set]; exact hk), if_neg om, List.getElem_set_self]
  rw [hh]
  unfold goS
  rw [if_neg hf]
  have := fetchS_c s.mem (s.hart k).pc
  show (2 : Int) ≠ 0
  decide
theorem pickM_ol {k : Nat} : ∀ (n : Nat) {s : St}, s.Good → (pickM k n s).out.length ≤ s.out.length + n
  | 0, _, _ => Nat.le_refl _
  | n + 1, s, h => by
    unfold pickM
    split
    · rename_i hs
      have h1 := pickM_ol (k := k) n (goM_good h hs)
      have hf := goS_fin (s.hart k) s.mem (h.hart k) hs
      have h2 : (goM k s).out.length ≤ s.out.length + 1 := by
        show (s.out ++ (goS _).out).length ≤ _
        have := hf.ol
        rw [List.length_append]; omega
      omega
    · omega
end Go.Proofs.Ytlfnddmncbkjaac.Fb
