import Derived.Test.YtlfnddmncbkjaabZZD
set_option linter.unusedVariables false
set_option linter.unusedSimpArgs false
set_option maxRecDepth 100000
set_option maxHeartbeats 4000000
namespace Go.Proofs.Ytlfnddmncbkjaab.Fb
open Go.RowKit
structure R7Near (d d' : RunD) : Prop where
  s0 : d.steps ≤ d'.steps
  s1 : d'.steps ≤ d.steps + 1
  st : d'.stores.length ≤ d.stores.length + 1
  ou : d'.out.length ≤ d.out.length + 1
theorem put_same (d : RunD) (k : Nat) (x : Int) : (d.put k x).steps = d.steps ∧ (d.put k x).stores = d.stores ∧ (d.put k x).out = d.out := by
  unfold RunD.put; split <;> exact ⟨rfl, rfl, rfl⟩
theorem r7near_put (d : RunD) (k : Nat) (x : Int) : R7Near d (d.put k x) := by
  obtain ⟨h1, h2, h3⟩ := put_same d k x
  exact ⟨by rw [h1]; omega, by rw [h1]; omega, by rw [h2]; omega, by rw [h3]; omega⟩
theorem r7near_of {d d' : RunD} (h1 : d'.steps = d.steps) (h2 : d'.stores = d.stores) (h3 : d'.out = d.out) : R7Near d d' := ⟨by rw [h1]; omega, by rw [h1]; omega, by rw [h2]; omega, by rw [h3]; omega⟩
theorem r7near_atom (d : RunD) (op : Int) (kd ka kb : Nat) : R7Near d (d.atom op kd ka kb) := by
  have key : ∀ (e : RunD) (x : Int), e.steps = d.steps → e.stores.length ≤ d.stores.length + 1 → e.out = d.out → R7Near d (e.put kd x) := fun e x h1 h2 h3 => by
    obtain ⟨q1, q2, q3⟩ := put_same e kd x
    exact ⟨by rw [q1, h1]; omega, by rw [q1, h1]; omega, by rw [q2]; exact h2, by rw [q3, h3]; omega⟩
  unfold RunD.atom
  by_cases c1 : mLoadOk d.m 13 (d.get ka) = true
  · rw [if_pos c1]
    by_cases c2 : op = 46
    · rw [if_pos c2]; exact key _ _ rfl (by show d.stores.length ≤ _; omega) rfl
    rw [if_neg c2]
    by_cases c3 : op = 47
    · rw [if_pos c3]
      by_cases c4 : (d.h.held && d.h.heldAt == d.get ka) = true
      · rw [if_pos c4]; exact key _ _ rfl (by show (d.stores ++ [_]).length ≤ _; simp) rfl
      · rw [if_neg c4]; exact key _ _ rfl (by show d.stores.length ≤ _; omega) rfl
    · rw [if_neg c3]; exact key _ _ rfl (by show (d.stores ++ [_]).length ≤ _; simp) rfl
  · rw [if_neg c1]; exact r7near_of rfl rfl rfl
theorem r7near_one (d : RunD) (m : MicD) (steps : Int) : R7Near d (d.one m steps) := by
  unfold RunD.one
  by_cases c1 : m.op = 1
  · rw [if_pos c1]
    by_cases c2 : (d.steps == steps || d.own) = true
    · rw [if_pos c2]; exact r7near_of rfl rfl rfl
    · rw [if_neg c2]; exact ⟨by show d.steps ≤ d.steps + 1; omega, Int.le_refl _, by show d.stores.length ≤ _; omega, by show d.out.length ≤ _; omega⟩
  rw [if_neg c1]
  by_cases c2 : m.op = 2
  · rw [if_pos c2]; exact r7near_put _ _ _
  rw [if_neg c2]
  by_cases c3 : m.op = 3
  · rw [if_pos c3]; exact r7near_of rfl rfl rfl
  rw [if_neg c3]
  by_cases c4 : m.op = 4
  · rw [if_pos c4]; exact r7near_of rfl rfl rfl
  rw [if_neg c4]
  by_cases c6 : m.op = 6
  · rw [if_pos c6]; exact r7near_of rfl rfl rfl
  rw [if_neg c6]
  by_cases c5 : m.op = 5
  · rw [if_pos c5]
    unfold RunD.call
    by_cases q0 : d.h.reg 17 = 0
    · rw [if_pos q0]; exact r7near_of rfl rfl rfl
    rw [if_neg q0]
    by_cases q1 : d.h.reg 17 = 1
    · rw [if_pos q1]; exact ⟨Int.le_refl _, by show d.steps ≤ d.steps + 1; omega, by show d.stores.length ≤ _; omega, by show (d.out ++ [_]).length ≤ _; simp⟩
    · rw [if_neg q1]; exact r7near_of rfl rfl rfl
  rw [if_neg c5]
  generalize m.op.tmod 100 = s
  by_cases k1 : m.op - s = 100
  · rw [if_pos k1]
    by_cases q : holds s (d.get m.a.toNat) (d.get m.b.toNat) = true
    · rw [if_pos q]; exact r7near_of rfl rfl rfl
    · rw [if_neg q]; exact r7near_of rfl rfl rfl
  rw [if_neg k1]
  by_cases k2 : m.op - s = 200
  · rw [if_pos k2]
    by_cases q : mLoadOk d.m s (u32 (d.get m.a.toNat + m.n)) = true
    · rw [if_pos q]; exact r7near_put _ _ _
    · rw [if_neg q]; exact r7near_of rfl rfl rfl
  rw [if_neg k2]
  by_cases k3 : m.op - s = 300
  · rw [if_pos k3]
    by_cases q : mStoreOk d.m s (u32 (d.get m.a.toNat + m.n)) = true
    · rw [if_pos q]; exact ⟨Int.le_refl _, by show d.steps ≤ d.steps + 1; omega, by show (d.stores ++ [_]).length ≤ _; simp, by show d.out.length ≤ _; omega⟩
    · rw [if_neg q]; exact r7near_of rfl rfl rfl
  rw [if_neg k3]
  by_cases k4 : m.op - s = 400
  · rw [if_pos k4]; exact r7near_put _ _ _
  rw [if_neg k4]
  by_cases k5 : m.op - s = 500
  · rw [if_pos k5]; exact r7near_put _ _ _
  rw [if_neg k5]
  by_cases k6 : m.op - s = 600
  · rw [if_pos k6]; exact r7near_atom _ _ _ _ _
  · rw [if_neg k6]; exact r7near_of rfl rfl rfl
def runL (steps : Int) : List MicD → RunD → RunD
  | [], d => d
  | m :: r, d => if d.over = true then d else runL steps r (d.one m steps)
theorem runL_over {steps : Int} {l : List MicD} {d : RunD} (h : d.over = true) : runL steps l d = d := by
  cases l with
  | nil => rfl
  | cons m r => unfold runL; rw [if_pos h]
def RunD.fin (d : RunD) : RunD := if d.over = false ∧ 0 < d.steps then { d with h := d.h.setPc (u32 (d.here + 4)) } else d
def run0 (h : Hart) (m : List Int) (bf bt : Int) : RunD := ⟨h, m, [], 0, [], [0, 0, 0, 0], h.pc, false, false, bf, bt⟩
def playR (code : List MicD) (h : Hart) (m : List Int) (bf bt steps : Int) : RunD := (runL steps code (run0 h m bf bt)).fin
def didl (d : RunD) (vm vo vs : Value) : List Value := hlist d.h ++ [vm, vo, .int .i64 d.steps, vs]
theorem run0_wf {h : Hart} (wf : h.Wf) {m : List Int} (hb : Bytes m) (hl : m.length ≤ 140737488351232) {bf bt : Int} (h1 : U32 bf) (h2 : U32 bt) : (run0 h m bf bt).Wf :=
  ⟨wf, hb, hl, (by intro x hx; cases hx), ⟨by show -9223372036854775808 ≤ (0 : Int); omega, by show (0 : Int) ≤ 9223372036854775807; omega⟩, (by intro x hx; cases hx), rfl, (by intro x hx; simp [run0] at hx; rw [hx]; exact u32_0), wf.pc, h1, h2⟩
end Go.Proofs.Ytlfnddmncbkjaab.Fb
namespace Go.Proofs.Ytlfnddmncbkjaab.Fb
open Go.RowKit
def r8list (d : RunD) (cp : Nat) (vs : Value) (steps : Int) : List Value :=
  [.pointer (some ⟨cp, 0, none⟩), .int .u32 d.bf, .int .u32 d.bt, .int .i64 (steps - d.steps), .int .i64 d.steps, vs] ++ (d.temps.map (Value.int .u32) ++ [.int .u32 d.here, .bool d.own])
def RunD.core (d : RunD) (fr tw : Int) : CoreD := ⟨d.h, d.m, d.out, fr, tw⟩
structure R8 (rp cp hb po : Nat) (vm : Value) (TU TS TR : TypeId) (w : World) (d : RunD) (vs : Value) (steps fr tw : Int) : Prop where
  wf : d.Wf
  olen : d.out.length ≤ 1099511627776
  mmax : d.m.length ≤ 4096
  ufr : U32 fr
  utw : U32 tw
  core : CoreAt cp hb po vm TU w (d.core fr tw)
  lt : cp < rp
  at_ : At w rp 0 (r8list d cp vs steps)
  frz : ∀ o, w.frozen? ⟨rp, o, none⟩ = false
  ty : ∃ cs f, w.heap[rp]? = some (.cells cs TR f)
  sto : w.ownsRow (rp + 1) TS 2 vs d.stores.length (d.stores.flatMap rg)
structure G8 (rp : Nat) (TU : TypeId) (cp hb po : Nat) (vm : Value) (w w' : World) : Prop where
  os : w'.os = w.os
  tape : w'.tape = w.tape
  output : w'.output = w.output
  size : w.heap.size ≤ w'.heap.size
  block : ∀ k, k < w.heap.size → k ≠ hb → vm.ownBlock ≠ some k → (k < cp ∨ (cp < k ∧ k < rp ∧ ∀ cs f, w.heap[k]? ≠ some (.cells cs TU f))) → w'.heap[k]? = w.heap[k]?
  cell : ∀ o, (o < po ∨ po + 37 ≤ o) → w'.cell? ⟨hb, o, none⟩ = w.cell? ⟨hb, o, none⟩
theorem type_setCell {w : World} {b i : Nat} {v : Value} {T : TypeId} (h : ∃ cs f, w.heap[b]? = some (.cells cs T f)) : ∃ cs f, (w.setCell ⟨b, i, none⟩ v).heap[b]? = some (.cells cs T f) := by
  obtain ⟨cs, f, h⟩ := h
  simp only [World.setCell, Array.getElem?_modify]
  rw [if_pos trivial, h]
  exact ⟨_, _, rfl⟩
section
variable {rp cp hb po : Nat} {vm : Value} {TU TS TR : TypeId} {w w' w'' : World} {d d' : RunD} {vs : Value} {steps fr tw : Int}
theorem G8.refl : G8 rp TU cp hb po vm w w := ⟨rfl, rfl, rfl, Nat.le_refl _, fun _ _ _ _ _ => rfl, fun _ _ => rfl⟩
theorem G8.trans (h : G8 rp TU cp hb po vm w w') (k : G8 rp TU cp hb po vm w' w'') : G8 rp TU cp hb po vm w w'' :=
  ⟨k.os.trans h.os, k.tape.trans h.tape, k.output.trans h.output, Nat.le_trans h.size k.size, fun j h0 h1 h2 h3 => by
    have e := h.block j h0 h1 h2 h3
    refine (k.block j (Nat.lt_of_lt_of_le h0 h.size) h1 h2 ?_).trans e
    rw [e]; exact h3, fun o ho => (k.cell o ho).trans (h.cell o ho)⟩
theorem G8.below (hb' : Below w.heap.size w w') (hc : hb < w.heap.size) : G8 rp TU cp hb po vm w w' := ⟨hb'.os, hb'.tape, hb'.output, hb'.size, fun k h0 _ _ _ => hb'.block k h0, fun o _ => hb'.cell (p := ⟨hb, o, none⟩) hc⟩
theorem G8.cgo (h : Cgo cp hb po vm TU w w') (_ : hb < w.heap.size) : G8 rp TU cp hb po vm w w' :=
  ⟨h.os, h.tape, h.output, h.size, fun k h0 h1 h2 h3 => h.block k h0 h1 h2 (h3.imp id (fun h4 => ⟨h4.1, h4.2.2⟩)), h.cell⟩
theorem G8.set (hh : cp ≤ rp ∧ hb < rp) (o : Nat) (v : Value) : G8 rp TU cp hb po vm w (w.setCell ⟨rp, o, none⟩ v) :=
  ⟨rfl, rfl, rfl, by simp, fun k _ _ _ h3 => Below.heap_setCell _ _ _ _ (by show k ≠ rp; omega), fun o2 _ => World.cell?_setCell_other _ _ _ _ (by intro e; injection e with e1; omega)⟩
theorem r8_len (ht : d.temps.length = 4) : (r8list d cp vs steps).length = 12 := by simp [r8list, ht]
theorem CoreAt.keeps {ty : TypeId} {d : CoreD} (h : CoreAt cp hb po vm ty w d) (hs : w.heap.size ≤ w'.heap.size) (hk : ∀ k, k < w.heap.size → (k ≤ cp ∨ ∃ cs f, w.heap[k]? = some (.cells cs ty f)) → w'.heap[k]? = w.heap[k]?) : CoreAt cp hb po vm ty w' d := by
  have h1 := h.lt
  have h2 := h.hlt
  have hbl := h.hbl
  have e1 := hk cp h1 (.inl (Nat.le_refl _))
  have e2 := hk hb h2 (.inl (by omega))
  refine ⟨h.hbl, (cell_block e1 _).trans h.ptr, (cell_block e1 _).trans h.mem, (cell_block e1 _).trans h.fr, (cell_block e1 _).trans h.tw, fun o => (frozen_block e1 o).trans (h.frz o), fun j hj => (cell_block e2 _).trans (h.hart j hj), fun o => (frozen_block e2 o).trans (h.hfz o), ?_, fun b off n c e => ?_, ?_, h.mlt⟩
  · refine r7ints_keep h.bytes (fun hn q e => ?_)
    have hq := h.mlt q e
    exact hk q (by omega) (.inl (by omega))
  · obtain ⟨x1, x2, x3, x4⟩ := h.mfz b off n c e
    have e3 := hk b x3 (.inl (by omega))
    exact ⟨x1, x2, Nat.lt_of_lt_of_le x3 hs, fun o => (frozen_block e3 o).trans (x4 o)⟩
  · obtain ⟨vo, y1, y2⟩ := h.row
    refine ⟨vo, (cell_block e1 _).trans y1, owns_block y2 (fun g e => ?_)⟩
    refine hk g (y2.lt g e).2 (.inr ?_)
    rcases y2.2 with ⟨rfl, _⟩ | ⟨g1, _, c1, rfl, _, q1, _⟩
    · cases e
    · cases e
      exact ⟨_, _, q1⟩
theorem R8.rlt (h : R8 rp cp hb po vm TU TS TR w d vs steps fr tw) : rp < w.heap.size := by
  have h1 := h.at_ 0 (by rw [r8_len h.wf.tlen]; omega)
  exact lt_of_cell h1
theorem R8.clt (h : R8 rp cp hb po vm TU TS TR w d vs steps fr tw) : hb < w.heap.size := by have := h.rlt; have := h.lt; have := h.core.hbl; omega
theorem R8.below (h : R8 rp cp hb po vm TU TS TR w d vs steps fr tw) (hb' : Below w.heap.size w w') : R8 rp cp hb po vm TU TS TR w' d vs steps fr tw := by
  have h1 := h.rlt
  obtain ⟨cs, f, hty⟩ := h.ty
  exact ⟨h.wf, h.olen, h.mmax, h.ufr, h.utw, h.core.below hb', h.lt, h.at_.below hb', fun o => (hb'.frozen (p := ⟨rp, o, none⟩) h1).trans (h.frz o), ⟨cs, f, (hb'.block rp h1).trans hty⟩, owns_below h.sto hb'⟩
theorem own_type {B : Nat} {e : TypeId} {k : Nat} {v : Value} {n : Nat} {xs : List Value} (h : w.ownsRow B e k v n xs) {g : Nat} (hg : v.ownBlock = some g) : ∃ cs f, w.heap[g]? = some (.cells cs e f) := by
  rcases h.2 with ⟨rfl, _⟩ | ⟨g1, _, c1, rfl, _, q1, _⟩
  · cases hg
  · cases hg
    exact ⟨_, _, q1⟩
theorem R8.cgo (h : R8 rp cp hb po vm TU TS TR w d vs steps fr tw) {fr' tw' : Int} (hc : CoreAt cp hb po vm TU w' (d'.core fr' tw')) (hg : Cgo cp hb po vm TU w w') (hR : TR ≠ TU) (hS : TS ≠ TU)
    (wf : d'.Wf) (ho : d'.out.length ≤ 1099511627776) (hm : d'.m.length ≤ 4096) (hf : U32 fr') (ht : U32 tw') (e1 : d'.bf = d.bf) (e2 : d'.bt = d.bt) (e3 : d'.steps = d.steps) (e4 : d'.temps = d.temps) (e5 : d'.here = d.here) (e6 : d'.own = d.own) (e7 : d'.stores = d.stores) :
    R8 rp cp hb po vm TU TS TR w' d' vs steps fr' tw' := by
  have h1 := h.rlt
  have h2 := h.lt
  have h3 := h.core.hbl
  obtain ⟨cs, f, hty⟩ := h.ty
  have hrp : w'.heap[rp]? = w.heap[rp]? := hg.block rp h1 (by omega) (fun e => by have := h.core.mlt _ e; omega) (.inr ⟨h2, fun cs2 f2 e => by rw [hty] at e; cases e; exact hR rfl⟩)
  have hl : r8list d' cp vs steps = r8list d cp vs steps := by unfold r8list; rw [e1, e2, e3, e4, e5, e6]
  refine ⟨wf, ho, hm, hf, ht, hc, h2, ?_, fun o => (frozen_block hrp o).trans (h.frz o), ⟨cs, f, hrp.trans hty⟩, ?_⟩
  · rw [hl]; exact fun j hj => (cell_block hrp _).trans (h.at_ j hj)
  · rw [e7]
    refine owns_block h.sto (fun g e => ?_)
    have hg2 := h.sto.lt g e
    obtain ⟨cs3, f3, hty3⟩ := own_type h.sto e
    exact hg.block g hg2.2 (by omega) (fun e => by have := h.core.mlt _ e; omega) (.inr ⟨by omega, fun cs2 f2 e => by rw [hty3] at e; cases e; exact hS rfl⟩)
theorem R8.setCell2 {steps' : Int} (h : R8 rp cp hb po vm TU TS TR w d vs steps fr tw) (hR : TR ≠ TU) (i : Nat) (hi : i < 12) (v : Value) (hl : (r8list d cp vs steps).set i v = r8list d' cp vs steps') (hh : d'.h = d.h) (hm : d'.m = d.m) (ho : d'.out = d.out) (hs : d'.stores = d.stores) (wf : d'.Wf) :
    R8 rp cp hb po vm TU TS TR (w.setCell ⟨rp, i, none⟩ v) d' vs steps' fr tw := by
  have h1 := h.rlt
  have h2 := h.lt
  obtain ⟨cs, f, hty⟩ := h.ty
  refine ⟨wf, by rw [ho]; exact h.olen, by rw [hm]; exact h.mmax, h.ufr, h.utw, ?_, h2, ?_, fun o => (World.frozen?_setCell _ _ _ _).trans (h.frz o), type_setCell h.ty, ?_⟩
  · have e : d'.core fr tw = d.core fr tw := by unfold RunD.core; rw [hh, hm, ho]
    rw [e]
    refine h.core.keeps (by simp) (fun k hk hor => Below.heap_setCell _ _ _ _ ?_)
    show k ≠ rp
    rcases hor with h3 | ⟨cs2, f2, h3⟩
    · omega
    · intro e2; subst e2; rw [hty] at h3; cases h3; exact hR rfl
  · have := h.at_.set i (by rw [r8_len h.wf.tlen]; exact hi) v
    rw [Nat.zero_add, hl] at this
    exact this
  · rw [hs]; exact ownsRow_setCell_below h.sto (a := ⟨rp, i, none⟩) (Nat.lt_succ_self rp) v
theorem R8.setCell (h : R8 rp cp hb po vm TU TS TR w d vs steps fr tw) (hR : TR ≠ TU) (i : Nat) (hi : i < 12) (v : Value) (hl : (r8list d cp vs steps).set i v = r8list d' cp vs steps) (hh : d'.h = d.h) (hm : d'.m = d.m) (ho : d'.out = d.out) (hs : d'.stores = d.stores) (wf : d'.Wf) :
    R8 rp cp hb po vm TU TS TR (w.setCell ⟨rp, i, none⟩ v) d' vs steps fr tw := h.setCell2 hR i hi v hl hh hm ho hs wf
end
theorem hits_ends {a bf bt : Int} {n : Nat} (ha : 0 ≤ a) (hn : 0 < n) (hle : a + n ≤ 4294967295) : hits a bf bt n = (decide (bf < bt) && decide (a < bt) && decide (bf < a + n)) := by
  have e : ∀ k : Nat, k < n → u32 (a + (k : Int)) = a + k := fun k hk => by unfold u32; omega
  rw [Bool.eq_iff_iff]
  unfold hits
  simp only [List.any_eq_true, List.mem_range, decide_eq_true_eq, Bool.and_eq_true]
  constructor
  · rintro ⟨k, hk, h1, h2⟩
    rw [e k hk] at h1 h2
    omega
  · rintro ⟨⟨h1, h2⟩, h3⟩
    by_cases hc : bf ≤ a
    · exact ⟨0, hn, by rw [e 0 hn]; omega⟩
    · exact ⟨(bf - a).toNat, by omega, by rw [e _ (by omega)]; omega⟩
end Go.Proofs.Ytlfnddmncbkjaab.Fb
