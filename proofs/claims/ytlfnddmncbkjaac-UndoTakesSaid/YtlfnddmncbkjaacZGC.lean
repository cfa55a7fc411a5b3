import Derived.Test.YtlfnddmncbkjaacZGB
import Derived.Test.YtlfnddmncbkjaacZMB
import Derived.Test.YtlfnddmncbkjaacZMA
import Derived.Maps.OwnSet
import Derived.Maps.Views
set_option linter.unusedVariables false
set_option linter.unusedSimpArgs false
set_option maxRecDepth 100000
set_option maxHeartbeats 4000000
namespace Go.Proofs.Ytlfnddmncbkjaac.Fb
open Go.RowKit Go.Maps
structure Fr (S : Nat → Prop) (w w' : World) : Prop where
  os : w'.os = w.os
  tape : w'.tape = w.tape
  output : w'.output = w.output
  size : w.heap.size ≤ w'.heap.size
  block : ∀ j, j < w.heap.size → ¬ S j → w'.heap[j]? = w.heap[j]?
theorem Fr.refl (S : Nat → Prop) (w : World) : Fr S w w := ⟨rfl, rfl, rfl, Nat.le_refl _, fun _ _ _ => rfl⟩
theorem Fr.trans {S S' : Nat → Prop} {a b c : World} (h : Fr S a b) (k : Fr S' b c) (hS : ∀ j, j < a.heap.size → S' j → S j) : Fr S a c :=
  ⟨k.os.trans h.os, k.tape.trans h.tape, k.output.trans h.output, Nat.le_trans h.size k.size, fun j hj hn => (k.block j (Nat.lt_of_lt_of_le hj h.size) (fun hs => hn (hS j hj hs))).trans (h.block j hj hn)⟩
theorem Fr.mono {S S' : Nat → Prop} {a b : World} (h : Fr S a b) (hS : ∀ j, j < a.heap.size → S j → S' j) : Fr S' a b := ⟨h.os, h.tape, h.output, h.size, fun j hj hn => h.block j hj (fun hs => hn (hS j hj hs))⟩
theorem Fr.of_below {S : Nat → Prop} {B : Nat} {a b : World} (h : Below B a b) (hB : ∀ j, B ≤ j → j < a.heap.size → S j) : Fr S a b := ⟨h.os, h.tape, h.output, h.size, fun j hj hn => h.block j (Nat.lt_of_not_le (fun hle => hn (hB j hle hj)))⟩
theorem Fr.below {S : Nat → Prop} {B : Nat} {a b : World} (h : Fr S a b) (hB : ∀ j, j < B → ¬ S j) (hle : B ≤ a.heap.size) : Below B a b := ⟨h.os, h.tape, h.output, h.size, fun j hj => h.block j om (hB j hj)⟩
theorem Fr.of_grown {S : Nat → Prop} {a b : World} {row : Option Nat} (h : a.grownBy b row) (hS : ∀ j, some j = row → S j) : Fr S a b := ⟨h.os, h.tape, h.output, h.size, fun j hj hn => h.block j hj (fun e => hn (hS j e))⟩
theorem Fr.setCells {S : Nat → Prop} {a b : World} (h : Fr S a b) (g : Nat) (hg : S g) : ∀ (vs : List Value) (o : Nat), Fr S a (b.setCells g o vs) := fun vs o =>
  h.trans (S' := fun j => j = g) (by
    have key : ∀ (vs : List Value) (o : Nat) (b : World), Fr (fun j => j = g) b (b.setCells g o vs) := by
      intro vs
      induction vs with
      | nil => intro o b; exact Fr.refl _ _
      | cons v r ih =>
        intro o b
        show Fr _ b ((b.setCell ⟨g, o, none⟩ v).setCells g (o + 1) r)
        have h1 : Fr (fun j => j = g) b (b.setCell ⟨g, o, none⟩ v) := ⟨rfl, rfl, rfl, by simp, fun j _ hn => Below.heap_setCell _ _ _ _ hn⟩
        exact h1.trans (ih (o + 1) _) (fun j _ h => h)
    exact key vs o b) (fun j _ e => by subst e; exact hg)
theorem Fr.drewN {S : Nat → Prop} {a b : World} (h : Fr S a b) (n : Nat) : Fr S a (b.drewN n) := ⟨h.os, h.tape, h.output, h.size, h.block⟩
theorem Fr.drew {S : Nat → Prop} {a b : World} (h : Fr S a b) : Fr S a b.drew := ⟨h.os, h.tape, h.output, h.size, h.block⟩
theorem Fr.setCell {S : Nat → Prop} {a b : World} (h : Fr S a b) (p : Addr) (v : Value) (hp : S p.block) : Fr S a (b.setCell p v) :=
  h.trans (S' := fun j => j = p.block) ⟨rfl, rfl, rfl, by simp, fun j _ hn => Below.heap_setCell _ _ _ _ hn⟩ (fun j _ e => by subst e; exact hp)
def heldR (v : Value) : Option (DataW Value × List MemPlace) := some (.held v, [])
def FarA (A : Nat → Prop) (v : Value) (l : List BlkD) : Prop := (∀ q, v.ownBlock = some q → A q) ∧ ∀ x ∈ l, ∀ q, x.vi.ownBlock = some q → A q
structure EnB (A : Nat → Prop) (TE TB TI : TypeId) (ep mp bp : Nat) (w : World) (room pu st : Int) (v : Value) (zs : List BlkD) : Prop where
  ty : ∃ cs f, w.heap[ep]? = some (.cells cs TE f)
  at_ : At w ep 0 [.pointer (some ⟨bp, 0, none⟩), .int .i64 room, v, .int .i64 pu, .int .i64 st, .map (some mp)]
  frz : ∀ o, w.frozen? ⟨ep, o, none⟩ = false
  blks : Blks w v zs
  far : FarA A v zs
  typ : Typ TB TI w v zs
def EnC (A : Nat → Prop) (P : Program) (K TM : TypeId) (ep mp : Nat) (w : World) (zs : List BlkD) (n : Nat) : Prop :=
  mp < ep ∧ ∃ D, w.ownsMap P K heldR mp n D ∧ ∀ x ∈ zs, ∃ vc, D.atKey (.int .u32 x.pc) (.held (.slice none 0 0)) = .held vc ∧ Sl w vc 5 (mkM x.pc x.ins).length ((mkM x.pc x.ins).flatMap mlist) ∧ ∀ q, vc.ownBlock = some q → A q ∧ ∃ cs f, w.heap[q]? = some (.cells cs TM f)
def Row3 (TB TI TM : TypeId) (w : World) (q : Nat) : Prop := ∃ cs f, w.heap[q]? = some (.cells cs TB f) ∨ w.heap[q]? = some (.cells cs TI f) ∨ w.heap[q]? = some (.cells cs TM f)
section
variable {A : Nat → Prop} {P : Program} {K TE TB TI TM TU : TypeId} {ep mp bp : Nat} {w w' : World} {room pu st pu' st' : Int} {v v' : Value} {zs zs' : List BlkD} {n : Nat}
theorem heap_lt {q : Nat} {o : Obj} (h : w.heap[q]? = some o) : q < w.heap.size := (Array.getElem?_eq_some_iff.1 h).1
theorem EnB.lt (h : EnB A TE TB TI ep mp bp w room pu st v zs) : ep < w.heap.size := by obtain ⟨cs, f, e⟩ := h.ty; exact heap_lt e
theorem EnB.keep0 (h : EnB A TE TB TI ep mp bp w room pu st v zs) (e0 : w'.heap[ep]? = w.heap[ep]?) (hv : ∀ g, v.ownBlock = some g → w'.heap[g]? = w.heap[g]?) (hx : ∀ x ∈ zs, ∀ g, x.vi.ownBlock = some g → w'.heap[g]? = w.heap[g]?) : EnB A TE TB TI ep mp bp w' room pu st v zs := by
  refine ⟨?_, fun j hj => (cell_block e0 _).trans (h.at_ j hj), fun o => (frozen_block e0 o).trans (h.frz o), ⟨sl_block h.blks.1 hv, fun x hx' => ⟨sl_block (h.blks.2 x hx').at_ (hx x hx'), (h.blks.2 x hx').pc⟩⟩, h.far, ⟨fun g hg => ?_, fun x hx' g hg => ?_⟩⟩
  · obtain ⟨cs, f, e⟩ := h.ty; exact ⟨cs, f, e0.trans e⟩
  · obtain ⟨cs, f, e⟩ := h.typ.1 g hg; exact ⟨cs, f, (hv g hg).trans e⟩
  · obtain ⟨cs, f, e⟩ := h.typ.2 x hx' g hg; exact ⟨cs, f, (hx x hx' g hg).trans e⟩
theorem EnB.keep (h : EnB A TE TB TI ep mp bp w room pu st v zs) (hA : ∀ q, A q → ep < q) (hk : ∀ k, k < w.heap.size → (k = ep ∨ (ep < k ∧ A k ∧ Row3 TB TI TM w k)) → w'.heap[k]? = w.heap[k]?) : EnB A TE TB TI ep mp bp w' room pu st v zs := by
  refine h.keep0 (hk ep h.lt (.inl rfl)) (fun g hg => ?_) (fun x hx g hg => ?_)
  · obtain ⟨cs, f, e⟩ := h.typ.1 g hg
    exact hk g (heap_lt e) (.inr ⟨hA g (h.far.1 g hg), h.far.1 g hg, cs, f, .inl e⟩)
  · obtain ⟨cs, f, e⟩ := h.typ.2 x hx g hg
    exact hk g (heap_lt e) (.inr ⟨hA g (h.far.2 x hx g hg), h.far.2 x hx g hg, cs, f, .inr (.inl e)⟩)
theorem EnC.keep (h : EnC A P K TM ep mp w zs n) (hA : ∀ q, A q → ep < q) (hk : ∀ k, k < w.heap.size → (k = mp ∨ (ep < k ∧ A k ∧ Row3 TB TI TM w k)) → w'.heap[k]? = w.heap[k]?) : EnC A P K TM ep mp w' zs n := by
  obtain ⟨h0, D, ⟨es, clock, hb, F, hs, hD⟩, h2⟩ := h
  refine ⟨h0, D, ⟨es, clock, (hk mp (heap_lt hb) (.inl rfl)).trans hb, F, hs, hD⟩, fun x hx => ?_⟩
  obtain ⟨vc, e1, e2, e3⟩ := h2 x hx
  have hv : ∀ g, vc.ownBlock = some g → w'.heap[g]? = w.heap[g]? := fun g hg => by
    obtain ⟨h4, cs, f, e⟩ := e3 g hg
    exact hk g (heap_lt e) (.inr ⟨hA g h4, h4, cs, f, .inr (.inr e)⟩)
  refine ⟨vc, e1, sl_block e2 hv, fun q hq => ?_⟩
  obtain ⟨h4, cs, f, e⟩ := e3 q hq
  exact ⟨h4, cs, f, (hv q hq).trans e⟩
theorem EnB.below (h : EnB A TE TB TI ep mp bp w room pu st v zs) (hb : Below w.heap.size w w') : EnB A TE TB TI ep mp bp w' room pu st v zs := h.keep0 (hb.block ep h.lt) (fun g hg => by
  obtain ⟨cs, f, e⟩ := h.typ.1 g hg
  exact hb.block g (heap_lt e)) (fun x hx g hg => by
  obtain ⟨cs, f, e⟩ := h.typ.2 x hx g hg
  exact hb.block g (heap_lt e))
theorem EnC.below (h : EnC A P K TM ep mp w zs n) (hb : Below w.heap.size w w') : EnC A P K TM ep mp w' zs n := by
  obtain ⟨h0, D, ⟨es, clock, hB, F, hs, hD⟩, h2⟩ := h
  refine ⟨h0, D, ⟨es, clock, (hb.block mp (heap_lt hB)).trans hB, F, hs, hD⟩, fun x hx => ?_⟩
  obtain ⟨vc, e1, e2, e3⟩ := h2 x hx
  refine ⟨vc, e1, Sl.below e2 hb, fun q hq => ?_⟩
  obtain ⟨h4, cs, f, e⟩ := e3 q hq
  exact ⟨h4, cs, f, (hb.block q (heap_lt e)).trans e⟩
theorem EnB.weak {A' : Nat → Prop} (h : EnB A TE TB TI ep mp bp w room pu st v zs) (hA : ∀ q, q < w.heap.size → A q → A' q) : EnB A' TE TB TI ep mp bp w room pu st v zs := ⟨h.ty, h.at_, h.frz, h.blks, ⟨fun q hq => by
  obtain ⟨cs, f, e⟩ := h.typ.1 q hq
  exact hA q (heap_lt e) (h.far.1 q hq), fun x hx q hq => by
  obtain ⟨cs, f, e⟩ := h.typ.2 x hx q hq
  exact hA q (heap_lt e) (h.far.2 x hx q hq)⟩, h.typ⟩
theorem EnC.weak {A' : Nat → Prop} (h : EnC A P K TM ep mp w zs n) (hA : ∀ q, q < w.heap.size → A q → A' q) : EnC A' P K TM ep mp w zs n := by
  obtain ⟨h0, D, h1, h2⟩ := h
  refine ⟨h0, D, h1, fun x hx => ?_⟩
  obtain ⟨vc, e1, e2, e3⟩ := h2 x hx
  refine ⟨vc, e1, e2, fun q hq => ?_⟩
  obtain ⟨h4, cs, f, e⟩ := e3 q hq
  exact ⟨hA q (heap_lt e) h4, cs, f, e⟩
theorem EnB.there (h : EnB A TE TB TI ep mp bp w room pu st v zs) : w.there ep 1 4 := fun j hj => by
  have h1 := h.at_ (j + 1) zP
  refine ⟨?_, h.frz _⟩
  rw [Nat.zero_add] at h1
  rw [Nat.add_comm 1 j, h1]
  simp [show j + 1 < 6 by omega]
theorem EnC.lt (h : EnC A P K TM ep mp w zs n) : mp < w.heap.size := by obtain ⟨_, D, ⟨es, clock, hb, _⟩, _⟩ := h; exact heap_lt hb
theorem EnB.store (h : EnB A TE TB TI ep mp bp w room pu st v zs) (hA : ∀ q, A q → ep < q) (hb : Blks w v' zs') (hf : FarA A v' zs') (ht : Typ TB TI w v' zs') : EnB A TE TB TI ep mp bp (w.setCells ep 1 [.int .i64 room, v', .int .i64 pu', .int .i64 st']) room pu' st' v' zs' := by
  have F : Fr (fun j => j = ep) w (w.setCells ep 1 [.int .i64 room, v', .int .i64 pu', .int .i64 st']) := Fr.setCells (S := fun j => j = ep) (Fr.refl _ w) ep rfl _ _
  have hk : ∀ g, g < w.heap.size → ep < g → (w.setCells ep 1 [.int .i64 room, v', .int .i64 pu', .int .i64 st']).heap[g]? = w.heap[g]? := fun g h1 h2 => F.block g h1 om
  have hv : ∀ g, v'.ownBlock = some g → (w.setCells ep 1 [.int .i64 room, v', .int .i64 pu', .int .i64 st']).heap[g]? = w.heap[g]? := fun g hg => by
    obtain ⟨cs, f, e⟩ := ht.1 g hg
    exact hk g (heap_lt e) (hA g (hf.1 g hg))
  have hx : ∀ x ∈ zs', ∀ g, x.vi.ownBlock = some g → (w.setCells ep 1 [.int .i64 room, v', .int .i64 pu', .int .i64 st']).heap[g]? = w.heap[g]? := fun x hx g hg => by
    obtain ⟨cs, f, e⟩ := ht.2 x hx g hg
    exact hk g (heap_lt e) (hA g (hf.2 x hx g hg))
  have g0 := h.at_.get (j := 0) rfl
  have g1 := h.at_.get (j := 1) rfl
  have g2 := h.at_.get (j := 2) rfl
  have g3 := h.at_.get (j := 3) rfl
  have g4 := h.at_.get (j := 4) rfl
  have g5 := h.at_.get (j := 5) rfl
  have e : w.setCells ep 1 [.int .i64 room, v', .int .i64 pu', .int .i64 st'] = (((w.setCell ⟨ep, 1, none⟩ (.int .i64 room)).setCell ⟨ep, 2, none⟩ v').setCell ⟨ep, 3, none⟩ (.int .i64 pu')).setCell ⟨ep, 4, none⟩ (.int .i64 st') := rfl
  simp only [Nat.zero_add] at g0 g1 g2 g3 g4 g5
  have ot : ∀ (W : World) (i j : Nat) (u : Value), i ≠ j → (W.setCell ⟨ep, j, none⟩ u).cell? ⟨ep, i, none⟩ = W.cell? ⟨ep, i, none⟩ := fun W i j u hn => World.cell?_setCell_other _ _ _ _ zF
  refine ⟨?_, ?_, fun o => ?_, ⟨sl_block hb.1 hv, fun x hx' => ⟨sl_block (hb.2 x hx').at_ (hx x hx'), (hb.2 x hx').pc⟩⟩, hf, ⟨fun g hg => ?_, fun x hx' g hg => ?_⟩⟩
  · rw [e]; exact type_setCell (type_setCell (type_setCell (type_setCell h.ty)))
  · rw [e]
    refine at_cons ?_ (at_cons ?_ (at_cons ?_ (at_cons ?_ (at_cons ?_ (at_cons ?_ at_nil)))))
    · exact (ot _ _ _ _ om).trans ((ot _ _ _ _ om).trans ((ot _ _ _ _ om).trans ((ot _ _ _ _ om).trans g0)))
    · exact (ot _ _ _ _ om).trans ((ot _ _ _ _ om).trans ((ot _ _ _ _ om).trans (World.cell?_setCell_same _ _ _ g1)))
    · exact (ot _ _ _ _ om).trans ((ot _ _ _ _ om).trans (World.cell?_setCell_same _ _ _ ((ot _ _ _ _ om).trans g2)))
    · exact (ot _ _ _ _ om).trans (World.cell?_setCell_same _ _ _ ((ot _ _ _ _ om).trans ((ot _ _ _ _ om).trans g3)))
    · exact World.cell?_setCell_same _ _ _ ((ot _ _ _ _ om).trans ((ot _ _ _ _ om).trans ((ot _ _ _ _ om).trans g4)))
    · exact (ot _ _ _ _ om).trans ((ot _ _ _ _ om).trans ((ot _ _ _ _ om).trans ((ot _ _ _ _ om).trans g5)))
  · rw [e]; simp only [World.frozen?_setCell]; exact h.frz o
  · obtain ⟨cs, f, e⟩ := ht.1 g hg; exact ⟨cs, f, (hv g hg).trans e⟩
  · obtain ⟨cs, f, e⟩ := ht.2 x hx' g hg; exact ⟨cs, f, (hx x hx' g hg).trans e⟩
theorem key_ok {x : Int} (h : U32 x) : (Lit.int .u32 x).wf = true := WalkArith.wf_u32 ⟨h.1, by have := h.2; omega⟩
theorem EnC.put {T E : TypeId} (h : EnC A P K TM ep mp w zs n) (hA : ∀ q, A q → ep < q) (hK : P.underlying K = some (.int .u32)) (hT : P.underlying T = some (.map K E)) (hn : n < maxLen) {y : BlkD} (hy : U32 y.pc) {vc : Value} (hc : Sl w vc 5 (mkM y.pc y.ins).length ((mkM y.pc y.ins).flatMap mlist)) (hq : ∀ q, vc.ownBlock = some q → A q ∧ ∃ cs f, w.heap[q]? = some (.cells cs TM f))
    (hz : ∀ x ∈ zs', U32 x.pc ∧ ((x.pc = y.pc ∧ x.ins = y.ins) ∨ (x.pc ≠ y.pc ∧ ∃ z ∈ zs, x.pc = z.pc ∧ x.ins = z.ins))) :
    ∃ w', (Instr.mapUpdate T (.map (some mp)) (.int .u32 y.pc) vc).run P w = .ok () w' ∧ EnC A P K TM ep mp w' zs' (n + 1) ∧ Fr (fun j => j = mp) w w' := by
  obtain ⟨h0, D, h1, h2⟩ := h
  obtain ⟨w', r1, r2, r3⟩ := h1.update (int_keyed hK) hT hn (keyOf_int_mk hK (key_ok hy)) (show heldR vc = some (.held vc, []) from rfl)
  have F : Fr (fun j => j = mp) w w' := Fr.of_grown r3 (fun j e => by cases e; rfl)
  refine ⟨w', r1, ⟨h0, _, r2, fun x hx => ?_⟩, F⟩
  have hfar : ∀ vc : Value, (∀ q, vc.ownBlock = some q → A q ∧ ∃ cs f, w.heap[q]? = some (.cells cs TM f)) → ∀ g, vc.ownBlock = some g → w'.heap[g]? = w.heap[g]? := fun vc hv g hg => by
    obtain ⟨h4, cs, f, e⟩ := hv g hg
    exact F.block g (heap_lt e) (by have := hA g h4; omega)
  obtain ⟨hu, hx' | ⟨hne, z, hz', e1, e2⟩⟩ := hz x hx
  · rw [hx'.1, hx'.2]
    refine ⟨vc, atKey_put_same h1.isMap (show WideAt.IsKeyLit (.int .u32 y.pc) from trivial) _ _, sl_block hc (hfar vc hq), fun q e => ?_⟩
    obtain ⟨h4, cs, f, e4⟩ := hq q e
    exact ⟨h4, cs, f, (hfar vc hq q e).trans e4⟩
  · obtain ⟨vz, q1, q2, q3⟩ := h2 z hz'
    rw [e1, e2]
    refine ⟨vz, (atKey_put_other (by intro e; injection e with _ e3; exact hne (by rw [e1, e3])) _ _).trans q1, sl_block q2 (hfar vz q3), fun q e => ?_⟩
    obtain ⟨h4, cs, f, e4⟩ := q3 q e
    exact ⟨h4, cs, f, (hfar vz q3 q e).trans e4⟩
theorem Wk.other {bh hc cp k : Nat} {vm vo : Value} {ty : TypeId} {o0 o : List Int} {fr tw : Int} {s : St} {S : Nat → Prop} (h : Wk bp bh hc cp k vm vo ty o0 o fr tw w s) (hF : Fr S w w') (h1 : ¬ S bp) (h2 : ¬ S bh) (h3 : ∀ j, cp ≤ j → ¬ S j) (h4 : ∀ j, vm.ownBlock = some j → ¬ S j) (h5 : ∀ j, vo.ownBlock = some j → ¬ S j) :
    Wk bp bh hc cp k vm vo ty o0 o fr tw w' s := by
  have b1 := h.b1
  have b2 := h.b2
  have hlt := h.clt
  have e := hF.block bp om h1
  have eh := hF.block bh om h2
  refine ⟨h.core.move (h' := s.hart k) (hF.block cp hlt (h3 _ (Nat.le_refl _))) (fun g hg => hF.block g (by have := h.mlt g hg; omega) (h4 g hg)) (fun g hg hg2 => hF.block g hg2 (h3 g om)) hF.size (fun j hj => (cell_block eh _).trans (h.core.hart j hj)) (fun o => (frozen_block eh o).trans (h.core.hfz o)), h.b1, h.b2, (cell_block e _).trans h.c0, (cell_block e _).trans h.c1, (cell_block e _).trans h.c2, (cell_block e _).trans h.c3, fun o => (frozen_block e o).trans (h.frz o), fun j hj => (cell_block eh _).trans (h.harts j hj), h.mlt, owns_block h.own (fun g hg => hF.block g (h.own.lt g hg).2 (h5 g hg)), h.vlt, h.kl, h.hcap⟩
end
end Go.Proofs.Ytlfnddmncbkjaac.Fb
namespace Go.Proofs.Ytlfnddmncbkjaac.W
open Go.RowKit Fb
theorem info_did : (Try.prog.info? 88).map (·.size) = some 41 := by kernel_rfl
theorem did_size {d : DidD} (h : d.Ok) : (Try.prog.info? 88).map (·.size) = some (dcells d).size := by rw [dcells_size h]; exact info_did
theorem sum4_any (a b : Int) (w : World) (ha : U32 a) (hb : U32 b) : Calls Try.prog 51 #[.int .u32 a, .int .u32 b] w fun e w' => e = .returned (.int .u32 ((a + b) % 4294967296)) ∧ ∃ n, w' = w.drewN n := by
  have H := lI (fun W => alu1_any 28 a b W ha.1 ha.2 hb.1 hb.2)
  have e : alu 28 a b = (a + b) % 4294967296 := rfl
  rw [e] at H
  go_enter Try.func51, Try.ntmps51
  go_wp2_with fail
  refine (H.out _).mono ?_
  rintro e w' ⟨rfl, n, rfl⟩
  go_wp2_with fail
  go_ret
  exact ⟨rfl, n, rfl⟩
theorem operation4_any (op : Int) (w : World) (hop : 19 ≤ op ∧ op ≤ 27) : Calls Try.prog 56 #[.int .i64 op] w fun e w' => e = .returned (.int .i64 (immOp op)) ∧ w = w' := by
  have ho : op = 19 ∨ op = 20 ∨ op = 21 ∨ op = 22 ∨ op = 23 ∨ op = 24 ∨ op = 25 ∨ op = 26 ∨ op = 27 := om
  rcases ho with rfl | rfl | rfl | rfl | rfl | rfl | rfl | rfl | rfl
  all_goals
    go_enter Try.func56, Try.ntmps56
    go_wp2_with fail
    go_ret
    exact ⟨rfl, rfl⟩
theorem set4_any (d : DidD) (hd : d.Ok) (k : Nat) (hk : k < 32) (x : Int) (w : World) :
    Calls Try.prog 52 #[.agg (dcells d), .int .i64 k, .int .u32 x] w fun e w' => e = .returned (.agg (dcells (d.set k x))) ∧ Below w.heap.size w w' := by
  by_cases hk0 : k = 0
  · subst hk0
    have e : d.set ((0 : Nat) : Int) x = d := by simp [DidD.set, Hart.setReg]
    rw [e]
    go_enter Try.func52, Try.ntmps52
    go_upto_region 1 with (fail)
    show Code.wp _ _ _ _ ((w.alloc (.cells (dcells d) 88)).alloc (.cells (dcells did0) 88))
    have hD := DBox.begin (w := w) (tD := 88) (d := d) (z := dcells did0) (dcells_size did0_ok)
    have hb0 : Below w.heap.size w ((w.alloc (.cells (dcells d) 88)).alloc (.cells (dcells did0) 88)) := Fb.blw
    have hs0 : ((w.alloc (.cells (dcells d) 88)).alloc (.cells (dcells did0) 88)).heap.size = w.heap.size + 2 := by simp
    generalize (w.alloc (.cells (dcells d) 88)).alloc (.cells (dcells did0) 88) = w1 at *
    have HD := lI hD
    have hbe := hb0
    have hs2 := did_size hd
    have ht : (w1).there (w.heap.size + 1) 0 (dcells d).size := by rw [dcells_size hd]; exact HD.out.there
    have hall := dlist_all hd
    have hld := load_setCells (P := Try.prog) ht Try.underlying88 rfl hs2
    go_wp2_with (first | (refine wpList_load_at rfl 88 _ rfl w.heap.size 0 rfl (dcells d) _ HD.out.at_ Try.underlying88 rfl hs2 ?_) | (refine wpList_store_mid rfl 88 _ _ rfl (w.heap.size + 1) 0 (dcells d) rfl rfl ht hs2 hall ?_))
    exact bodyPost_ret (results_c1 zE _ zE hld) rfl ⟨rfl, below_setCells om _ _ _ hbe⟩
  · have e : d.set (k : Int) x = { d with h := { d.h with regs := d.h.regs.set k x } } := by simp [DidD.set, Hart.setReg]; omega
    rw [e]
    obtain ⟨d2, hdd⟩ : ∃ d2, d2 = ({ d with h := { d.h with regs := d.h.regs.set k x } } : DidD) := ⟨_, rfl⟩
    rw [← hdd]
    have hd2 : d2.Ok := by rw [hdd]; exact ⟨by simp [hd.len], hd.m1, hd.o1⟩
    go_enter Try.func52, Try.ntmps52
    go_upto_region 1 with (fail)
    show Code.wp _ _ _ _ ((w.alloc (.cells (dcells d) 88)).alloc (.cells (dcells did0) 88))
    have hD := DBox.begin (w := w) (tD := 88) (d := d) (z := dcells did0) (dcells_size did0_ok)
    have hb0 : Below w.heap.size w ((w.alloc (.cells (dcells d) 88)).alloc (.cells (dcells did0) 88)) := Fb.blw
    have hs0 : ((w.alloc (.cells (dcells d) 88)).alloc (.cells (dcells did0) 88)).heap.size = w.heap.size + 2 := by simp
    generalize (w.alloc (.cells (dcells d) 88)).alloc (.cells (dcells did0) 88) = w1 at *
    have hk1 : (0 : Int) < k := om
    have hcell : w1.cell? ⟨w.heap.size, k, none⟩ = some (.int .u32 (d.h.regs.getD k 0)) := hD.get (dlist_h (by
      have : k < d.h.regs.length := by rw [hd.len]; exact hk
      simp [hlist, List.getElem?_append, this]))
    have hfz := hD.frz k
    have HD : Hid (DBox w.heap.size (w.heap.size + 1) 88 (w1.setCell ⟨w.heap.size, k, none⟩ (.int .u32 x)) d2) := lI (by
      rw [hdd]
      exact hD.set k (.int .u32 x) (by rw [dlist_len hd]; omega) (dlist_setH (hlist_setReg hd.len k hk x) (by rw [hlist_len hd.len]; omega)))
    have hbe := hb0.setCell (p := ⟨w.heap.size, k, none⟩) (Nat.le_refl _) (.int .u32 x)
    clear hD hdd
    go_upto_region 3 with (fail)
    have hs2 := did_size hd2
    have ht : (w1.setCell ⟨w.heap.size, k, none⟩ (.int .u32 x)).there (w.heap.size + 1) 0 (dcells d2).size := by rw [dcells_size hd2]; exact HD.out.there
    have hall := dlist_all hd2
    have hld := load_setCells (P := Try.prog) ht Try.underlying88 rfl hs2
    go_wp2_with (first | (refine wpList_load_at rfl 88 _ rfl w.heap.size 0 rfl (dcells d2) _ HD.out.at_ Try.underlying88 rfl hs2 ?_) | (refine wpList_store_mid rfl 88 _ _ rfl (w.heap.size + 1) 0 (dcells d2) rfl rfl ht hs2 hall ?_))
    exact bodyPost_ret (results_c1 zE _ zE hld) rfl ⟨rfl, below_setCells om _ _ _ hbe⟩
theorem trap4_any (d : DidD) (hd : d.Ok) (c : Int) (w : World) :
    Calls Try.prog 49 #[.agg (dcells d), .int .i64 c] w fun e w' => e = .returned (.agg (dcells (d.trap c))) ∧ Below w.heap.size w w' := by
  obtain ⟨d2, hdd⟩ : ∃ d2, d2 = d.trap c := ⟨_, rfl⟩
  rw [← hdd]
  have hd2 : d2.Ok := by rw [hdd]; exact ⟨hd.len, hd.m1, hd.o1⟩
  go_enter Try.func49, Try.ntmps49
  go_upto_region 1 with (fail)
  show Code.wp _ _ _ _ ((w.alloc (.cells (dcells d) 88)).alloc (.cells (dcells did0) 88))
  have hD := DBox.begin (w := w) (tD := 88) (d := d) (z := dcells did0) (dcells_size did0_ok)
  have hb0 : Below w.heap.size w ((w.alloc (.cells (dcells d) 88)).alloc (.cells (dcells did0) 88)) := Fb.blw
  have hs0 : ((w.alloc (.cells (dcells d) 88)).alloc (.cells (dcells did0) 88)).heap.size = w.heap.size + 2 := by simp
  generalize (w.alloc (.cells (dcells d) 88)).alloc (.cells (dcells did0) 88) = w1 at *
  have h35 := hD.get (dlist_h (hlist_state' hd.len))
  have h36 := hD.get (dlist_h (hlist_cause' hd.len))
  have f35 := hD.frz 35
  have f36 := hD.frz 36
  have HD : Hid (DBox w.heap.size (w.heap.size + 1) 88 ((w1.setCell ⟨w.heap.size, 35, none⟩ (.int .i64 2)).setCell ⟨w.heap.size, 36, none⟩ (.int .i64 c)) d2) := lI (by
    rw [hdd]
    exact (hD.set (d' := { d with h := { d.h with state := 2 } }) 35 (.int .i64 2) (by rw [dlist_len hd]; omega) (dlist_setH (hlist_setState hd.len 2) (by rw [hlist_len hd.len]; omega))).set 36 (.int .i64 c) (by simp [dlist, dtail, hlist, hd.len]) (dlist_setH (d := { d with h := { d.h with state := 2 } }) (hlist_setCause (h := { d.h with state := 2 }) hd.len c) (by simp [hlist, hd.len])))
  have hbe := (hb0.setCell (p := ⟨w.heap.size, 35, none⟩) (Nat.le_refl _) (.int .i64 2)).setCell (p := ⟨w.heap.size, 36, none⟩) (Nat.le_refl _) (.int .i64 c)
  clear hD hdd
  go_upto_region 3 with (fail)
  have hs2 := did_size hd2
  have ht : ((w1.setCell ⟨w.heap.size, 35, none⟩ (.int .i64 2)).setCell ⟨w.heap.size, 36, none⟩ (.int .i64 c)).there (w.heap.size + 1) 0 (dcells d2).size := by rw [dcells_size hd2]; exact HD.out.there
  have hall := dlist_all hd2
  have hld := load_setCells (P := Try.prog) ht Try.underlying88 rfl hs2
  go_wp2_with (first | (refine wpList_load_at rfl 88 _ rfl w.heap.size 0 rfl (dcells d2) _ HD.out.at_ Try.underlying88 rfl hs2 ?_) | (refine wpList_store_mid rfl 88 _ _ rfl (w.heap.size + 1) 0 (dcells d2) rfl rfl ht hs2 hall ?_))
  exact bodyPost_ret (results_c1 zE _ zE hld) rfl ⟨rfl, below_setCells om _ _ _ hbe⟩
theorem store4_no (d : DidD) (hd : d.Ok) (m : List Int) (op at_ x : Int) (w : World) (hm : Ints .u8 w d.vm m) (ha : U32 at_) (hx : U32 x) (hr : m.length ≤ 140737488351232) (hq : mStoreOk m op at_ = false) :
    Calls Try.prog 54 #[.agg (dcells d), .int .i64 op, .int .u32 at_, .int .u32 x] w fun e w' => e = .returned (.tuple #[.agg (dcells d), .bool false]) ∧ Below w.heap.size w w' := by
  have HM := lI hm
  have HS := lI (fun W hW => store3_any d.vm m op at_ x W hW ha hx om)
  rw [hq] at HS
  go_enter Try.func54, Try.ntmps54
  go_upto_region 1 with (fail)
  show Code.wp _ _ _ _ ((w.alloc (.cells (dcells d) 88)).alloc (.cells (dcells did0) 88))
  have hD := DBox.begin (w := w) (tD := 88) (d := d) (z := dcells did0) (dcells_size did0_ok)
  have hb0 : Below w.heap.size w ((w.alloc (.cells (dcells d) 88)).alloc (.cells (dcells did0) 88)) := Fb.blw
  have hs0 : ((w.alloc (.cells (dcells d) 88)).alloc (.cells (dcells did0) 88)).heap.size = w.heap.size + 2 := by simp
  generalize (w.alloc (.cells (dcells d) 88)).alloc (.cells (dcells did0) 88) = w1 at *
  have hc37 : w1.cell? ⟨w.heap.size, 37, none⟩ = some d.vm := hD.get (dlist_t hd.len 0)
  go_wp2_with fail
  refine (HS.out _ (HM.out.below hb0)).mono ?_
  rintro e w2 ⟨⟨v', rfl, _⟩, hb2⟩
  have HD := lI (hD.below om om hb2)
  have hbe := hb0.trans (hb2.mono om)
  clear hD hc37 hb2 hb0
  have hs2 := did_size hd
  have ht : (w2).there (w.heap.size + 1) 0 (dcells d).size := by rw [dcells_size hd]; exact HD.out.there
  have hall := dlist_all hd
  have hld := load_setCells (P := Try.prog) ht Try.underlying88 rfl hs2
  go_wp2_with (first | (refine wpList_load_at rfl 88 _ rfl w.heap.size 0 rfl (dcells d) _ HD.out.at_ Try.underlying88 rfl hs2 ?_) | (refine wpList_store_mid rfl 88 _ _ rfl (w.heap.size + 1) 0 (dcells d) rfl rfl ht hs2 hall ?_))
  exact bodyPost_ret (results_c1t zE _ zE hld) rfl ⟨rfl, below_setCells om _ _ _ hbe⟩
theorem store4_yes (d : DidD) (hd : d.Ok) (m : List Int) (op at_ x : Int) (w : World) (hm : Ints .u8 w d.vm m) (ha : U32 at_) (hx : U32 x) (hr : m.length ≤ 140737488351232) (hq : mStoreOk m op at_ = true) :
    Calls Try.prog 54 #[.agg (dcells d), .int .i64 op, .int .u32 at_, .int .u32 x] w fun e w' => ∃ v', e = .returned (.tuple #[.agg (dcells { d with vm := v', fr := at_, many := msize op }), .bool true]) ∧ Ints .u8 w' v' (mStore m op at_ x) ∧ (∀ q, v'.ownBlock = some q → w.heap.size ≤ q) ∧ Below w.heap.size w w' := by
  have HM := lI hm
  obtain ⟨ka, rfl⟩ := Int.eq_ofNat_of_zero_le ha.1
  have HS := lI (fun W hW => store3_yes d.vm m op ka x W hW ha hx hq om)
  have hsz : ssize op = msize op := by unfold ssize; rw [if_pos (by simp [mStoreOk] at hq; exact hq.1)]
  go_enter Try.func54, Try.ntmps54
  go_upto_region 1 with (fail)
  show Code.wp _ _ _ _ ((w.alloc (.cells (dcells d) 88)).alloc (.cells (dcells did0) 88))
  have hD := DBox.begin (w := w) (tD := 88) (d := d) (z := dcells did0) (dcells_size did0_ok)
  have hb0 : Below w.heap.size w ((w.alloc (.cells (dcells d) 88)).alloc (.cells (dcells did0) 88)) := Fb.blw
  have hs0 : ((w.alloc (.cells (dcells d) 88)).alloc (.cells (dcells did0) 88)).heap.size = w.heap.size + 2 := by simp
  generalize (w.alloc (.cells (dcells d) 88)).alloc (.cells (dcells did0) 88) = w1 at *
  have hc37 : w1.cell? ⟨w.heap.size, 37, none⟩ = some d.vm := hD.get (dlist_t hd.len 0)
  go_wp2_with fail
  refine (HS.out _ (HM.out.below hb0)).mono ?_
  rintro e w2 ⟨⟨v', rfl, hv', hfr'⟩, hb2⟩
  have hD2 := hD.below om om hb2
  have hbe0 := hb0.trans (hb2.mono om)
  obtain ⟨ao2, cp2, rfl, _⟩ := hv'.open
  have HV := lI hv'
  have HFR := lI hfr'
  have c37 : w2.cell? ⟨w.heap.size, 37, none⟩ = some d.vm := hD2.get (dlist_t hd.len 0)
  have c39 : w2.cell? ⟨w.heap.size, 39, none⟩ = some (.int .u32 d.fr) := hD2.get (dlist_t hd.len 2)
  have c40 : w2.cell? ⟨w.heap.size, 40, none⟩ = some (.int .i64 d.many) := hD2.get (dlist_t hd.len 3)
  have f37 := hD2.frz 37
  have f39 := hD2.frz 39
  have f40 := hD2.frz 40
  have o1 : ({ d with vm := .slice ao2 (mStore m op ka x).length cp2 } : DidD).Ok := ⟨hd.len, rfl, hd.o1⟩
  have d1 := hD2.set (d' := { d with vm := .slice ao2 (mStore m op ka x).length cp2 }) 37 (.slice ao2 (mStore m op ka x).length cp2) (by rw [dlist_len hd]; omega) (dlist_setT (d := d) (d' := { d with vm := .slice ao2 (mStore m op ka x).length cp2 }) rfl hd.len (j := 0) rfl)
  have d2 := d1.set (d' := { d with vm := .slice ao2 (mStore m op ka x).length cp2, fr := (ka : Int) }) 39 (.int .u32 ka) (by rw [dlist_len o1]; omega) (dlist_setT (d := { d with vm := .slice ao2 (mStore m op ka x).length cp2 }) (d' := { d with vm := .slice ao2 (mStore m op ka x).length cp2, fr := (ka : Int) }) rfl hd.len (j := 2) rfl)
  have d3 := d2.set (d' := { d with vm := .slice ao2 (mStore m op ka x).length cp2, fr := (ka : Int), many := msize op }) 40 (.int .i64 (msize op)) (by rw [dlist_len (d := { d with vm := .slice ao2 (mStore m op ka x).length cp2, fr := (ka : Int) }) ⟨hd.len, rfl, hd.o1⟩]; omega) (dlist_setT (d := { d with vm := .slice ao2 (mStore m op ka x).length cp2, fr := (ka : Int) }) (d' := { d with vm := .slice ao2 (mStore m op ka x).length cp2, fr := (ka : Int), many := msize op }) rfl hd.len (j := 3) rfl)
  obtain ⟨dn, hdn⟩ : ∃ dn, dn = ({ d with vm := .slice ao2 (mStore m op ka x).length cp2, fr := (ka : Int), many := msize op } : DidD) := ⟨_, rfl⟩
  have hdnok : dn.Ok := by rw [hdn]; exact ⟨hd.len, rfl, hd.o1⟩
  rw [← hdn] at d3
  have HD := lI d3
  have hbe := ((hbe0.setCell (p := ⟨w.heap.size, 37, none⟩) (Nat.le_refl _) (.slice ao2 (mStore m op ka x).length cp2)).setCell (p := ⟨w.heap.size, 39, none⟩) (Nat.le_refl _) (.int .u32 ka)).setCell (p := ⟨w.heap.size, 40, none⟩) (Nat.le_refl _) (.int .i64 (msize op))
  have HDN := lI hdn
  clear hD hc37 hb2 hb0 hD2 d1 d2 d3 hv' hdn hfr'
  go_upto_region 7 with (go_at_call 62; refine (size3_store op _).mono ?_; rintro e w3 ⟨rfl, rfl⟩; rw [hsz])
  have hs2 := did_size hdnok
  have ht : (((w2.setCell ⟨w.heap.size, 37, none⟩ (.slice ao2 (mStore m op ka x).length cp2)).setCell ⟨w.heap.size, 39, none⟩ (.int .u32 ka)).setCell ⟨w.heap.size, 40, none⟩ (.int .i64 (msize op))).there (w.heap.size + 1) 0 (dcells dn).size := by rw [dcells_size hdnok]; exact HD.out.there
  have hall := dlist_all hdnok
  have hld := load_setCells (P := Try.prog) ht Try.underlying88 rfl hs2
  go_wp2_with (first | (refine wpList_load_at rfl 88 _ rfl w.heap.size 0 rfl (dcells dn) _ HD.out.at_ Try.underlying88 rfl hs2 ?_) | (refine wpList_store_mid rfl 88 _ _ rfl (w.heap.size + 1) 0 (dcells dn) rfl rfl ht hs2 hall ?_))
  exact bodyPost_ret (results_c1t zE _ zE hld) rfl ⟨_, by rw [HDN.out]; rfl, sl_setCells (fun b' off n c e => by have := HFR.out b' zX; omega) _ _ _ (((HV.out.set_other (fun b' off n c e => by have := HFR.out b' zX; show w.heap.size ≠ b'; omega) _).set_other (fun b' off n c e => by have := HFR.out b' zX; show w.heap.size ≠ b'; omega) _).set_other (fun b' off n c e => by have := HFR.out b' zX; show w.heap.size ≠ b'; omega) _), fun q e => by have := HFR.out q e; omega, below_setCells om _ _ _ hbe⟩
theorem atom4_lr_no (d : DidD) (c : CoreD) (w : World) (hc : DidOf w d c) (wf : c.Wf) (hl : c.m.length ≤ 4096) (kd k1 k2 : Nat) (imm : Int) (hk : kd < 32) (a b : Int) (ha : U32 a) (hb' : U32 b) (hq : mLoadOk c.m 13 a = false) :
    Calls Try.prog 57 #[.agg (dcells d), .agg #[.int .i64 46, .int .i64 kd, .int .i64 k1, .int .i64 k2, .int .i32 imm], .int .u32 a, .int .u32 b] w fun e w' => ∃ d', e = .returned (.tuple #[.agg (dcells d'), .bool false]) ∧ DidOf w' d' (c.trap 3) ∧ (d'.vm = d.vm ∨ ∀ q, d'.vm.ownBlock = some q → w.heap.size ≤ q) ∧ d'.vo = d.vo ∧ Below w.heap.size w w' := by
  have d_ok := hc.ok wf
  have HC := lI hc
  have HL := lI (fun W hW => load3_any d.vm c.m 13 a W hW ha wf.m.getD)
  have HA := lI ha
  have HB := lI hb'
  rw [hq] at HL
  go_enter Try.func57, Try.ntmps57
  go_upto_region 1 with (fail)
  show Code.wp _ _ _ _ (((w.alloc (.cells (dcells d) 88)).alloc (.cells #[.int .i64 46, .int .i64 kd, .int .i64 k1, .int .i64 k2, .int .i32 imm] 110)).alloc (.cells (dcells did0) 88))
  have hD := DBox.begin2 (w := w) (tD := 88) (d := d) (z := dcells did0) (o := .cells #[.int .i64 46, .int .i64 kd, .int .i64 k1, .int .i64 k2, .int .i32 imm] 110) (dcells_size did0_ok)
  have hb0 : Below w.heap.size w (((w.alloc (.cells (dcells d) 88)).alloc (.cells #[.int .i64 46, .int .i64 kd, .int .i64 k1, .int .i64 k2, .int .i32 imm] 110)).alloc (.cells (dcells did0) 88)) := Fb.blw
  have hs0 : (((w.alloc (.cells (dcells d) 88)).alloc (.cells #[.int .i64 46, .int .i64 kd, .int .i64 k1, .int .i64 k2, .int .i32 imm] 110)).alloc (.cells (dcells did0) 88)).heap.size = w.heap.size + 3 := by simp
  have q0 : (((w.alloc (.cells (dcells d) 88)).alloc (.cells #[.int .i64 46, .int .i64 kd, .int .i64 k1, .int .i64 k2, .int .i32 imm] 110)).alloc (.cells (dcells did0) 88)).cell? ⟨w.heap.size + 1, 0, none⟩ = some (.int .i64 46) := by go_cell
  have q1 : (((w.alloc (.cells (dcells d) 88)).alloc (.cells #[.int .i64 46, .int .i64 kd, .int .i64 k1, .int .i64 k2, .int .i32 imm] 110)).alloc (.cells (dcells did0) 88)).cell? ⟨w.heap.size + 1, 1, none⟩ = some (.int .i64 kd) := by go_cell
  have q2 : (((w.alloc (.cells (dcells d) 88)).alloc (.cells #[.int .i64 46, .int .i64 kd, .int .i64 k1, .int .i64 k2, .int .i32 imm] 110)).alloc (.cells (dcells did0) 88)).cell? ⟨w.heap.size + 1, 2, none⟩ = some (.int .i64 k1) := by go_cell
  have q3 : (((w.alloc (.cells (dcells d) 88)).alloc (.cells #[.int .i64 46, .int .i64 kd, .int .i64 k1, .int .i64 k2, .int .i32 imm] 110)).alloc (.cells (dcells did0) 88)).cell? ⟨w.heap.size + 1, 3, none⟩ = some (.int .i64 k2) := by go_cell
  have q4 : (((w.alloc (.cells (dcells d) 88)).alloc (.cells #[.int .i64 46, .int .i64 kd, .int .i64 k1, .int .i64 k2, .int .i32 imm] 110)).alloc (.cells (dcells did0) 88)).cell? ⟨w.heap.size + 1, 4, none⟩ = some (.int .i32 imm) := by go_cell
  generalize ((w.alloc (.cells (dcells d) 88)).alloc (.cells #[.int .i64 46, .int .i64 kd, .int .i64 k1, .int .i64 k2, .int .i32 imm] 110)).alloc (.cells (dcells did0) 88) = w1 at *
  have c37 : w1.cell? ⟨w.heap.size, 37, none⟩ = some d.vm := hD.get (dlist_t d_ok.len 0)
  have HD := lI hD
  clear hD
  go_upto_region 3 with (go_at_call 40; refine (HL.out _ (HC.out.m.below hb0)).mono ?_; rintro e w2 ⟨rfl, rfl⟩)
  go_wp2_with (first | (refine wpList_load_at rfl 88 _ rfl (w.heap.size) 0 rfl (dcells d) _ HD.out.at_ Try.underlying88 rfl (did_size d_ok) ?_))
  refine (trap4_any d d_ok 3 _).mono ?_
  rintro e w2 ⟨rfl, hb2⟩
  have HD2 := lI (HD.out.below om om hb2)
  have d2_ok : (d.trap 3).Ok := ⟨d_ok.len, d_ok.m1, d_ok.o1⟩
  have hbe := hb0.trans (hb2.mono om)
  clear hb2 c37 q0 q1 q2 q3 q4
  have ht : (w2).there (w.heap.size + 2) 0 (dcells (d.trap 3)).size := by rw [dcells_size d2_ok]; exact HD2.out.there
  have hld := load_setCells (P := Try.prog) ht Try.underlying88 rfl (did_size d2_ok)
  go_wp2_with (first | (refine wpList_store_mid rfl 88 _ _ rfl (w.heap.size + 2) 0 (dcells (d.trap 3)) rfl rfl ht (did_size d2_ok) (dlist_all d2_ok) ?_))
  exact bodyPost_ret (results_c1t zE _ zE hld) rfl ⟨_, rfl, (HC.out.below (below_setCells om _ _ _ hbe)).trap 3, .inl rfl, rfl, below_setCells om _ _ _ hbe⟩
theorem atom4_no (d : DidD) (c : CoreD) (w : World) (hc : DidOf w d c) (wf : c.Wf) (hl : c.m.length ≤ 4096) (op : Int) (kd k1 k2 : Nat) (imm : Int) (hop : 47 ≤ op ∧ op ≤ 56) (hk : kd < 32) (a b : Int) (ha : U32 a) (hb' : U32 b) (hq : mLoadOk c.m 13 a = false) :
    Calls Try.prog 57 #[.agg (dcells d), .agg #[.int .i64 op, .int .i64 kd, .int .i64 k1, .int .i64 k2, .int .i32 imm], .int .u32 a, .int .u32 b] w fun e w' => ∃ d', e = .returned (.tuple #[.agg (dcells d'), .bool false]) ∧ DidOf w' d' (c.trap 4) ∧ (d'.vm = d.vm ∨ ∀ q, d'.vm.ownBlock = some q → w.heap.size ≤ q) ∧ d'.vo = d.vo ∧ Below w.heap.size w w' := by
  have d_ok := hc.ok wf
  have HC := lI hc
  have HL := lI (fun W hW => load3_any d.vm c.m 13 a W hW ha wf.m.getD)
  have HA := lI ha
  have HB := lI hb'
  obtain ⟨o0, o1⟩ := hop
  have f46 : (op == 46) = false := beq_eq_false_iff_ne.2 om
  rw [hq] at HL
  go_enter Try.func57, Try.ntmps57
  go_upto_region 1 with (fail)
  show Code.wp _ _ _ _ (((w.alloc (.cells (dcells d) 88)).alloc (.cells #[.int .i64 op, .int .i64 kd, .int .i64 k1, .int .i64 k2, .int .i32 imm] 110)).alloc (.cells (dcells did0) 88))
  have hD := DBox.begin2 (w := w) (tD := 88) (d := d) (z := dcells did0) (o := .cells #[.int .i64 op, .int .i64 kd, .int .i64 k1, .int .i64 k2, .int .i32 imm] 110) (dcells_size did0_ok)
  have hb0 : Below w.heap.size w (((w.alloc (.cells (dcells d) 88)).alloc (.cells #[.int .i64 op, .int .i64 kd, .int .i64 k1, .int .i64 k2, .int .i32 imm] 110)).alloc (.cells (dcells did0) 88)) := Fb.blw
  have hs0 : (((w.alloc (.cells (dcells d) 88)).alloc (.cells #[.int .i64 op, .int .i64 kd, .int .i64 k1, .int .i64 k2, .int .i32 imm] 110)).alloc (.cells (dcells did0) 88)).heap.size = w.heap.size + 3 := by simp
  have q0 : (((w.alloc (.cells (dcells d) 88)).alloc (.cells #[.int .i64 op, .int .i64 kd, .int .i64 k1, .int .i64 k2, .int .i32 imm] 110)).alloc (.cells (dcells did0) 88)).cell? ⟨w.heap.size + 1, 0, none⟩ = some (.int .i64 op) := by go_cell
  have q1 : (((w.alloc (.cells (dcells d) 88)).alloc (.cells #[.int .i64 op, .int .i64 kd, .int .i64 k1, .int .i64 k2, .int .i32 imm] 110)).alloc (.cells (dcells did0) 88)).cell? ⟨w.heap.size + 1, 1, none⟩ = some (.int .i64 kd) := by go_cell
  have q2 : (((w.alloc (.cells (dcells d) 88)).alloc (.cells #[.int .i64 op, .int .i64 kd, .int .i64 k1, .int .i64 k2, .int .i32 imm] 110)).alloc (.cells (dcells did0) 88)).cell? ⟨w.heap.size + 1, 2, none⟩ = some (.int .i64 k1) := by go_cell
  have q3 : (((w.alloc (.cells (dcells d) 88)).alloc (.cells #[.int .i64 op, .int .i64 kd, .int .i64 k1, .int .i64 k2, .int .i32 imm] 110)).alloc (.cells (dcells did0) 88)).cell? ⟨w.heap.size + 1, 3, none⟩ = some (.int .i64 k2) := by go_cell
  have q4 : (((w.alloc (.cells (dcells d) 88)).alloc (.cells #[.int .i64 op, .int .i64 kd, .int .i64 k1, .int .i64 k2, .int .i32 imm] 110)).alloc (.cells (dcells did0) 88)).cell? ⟨w.heap.size + 1, 4, none⟩ = some (.int .i32 imm) := by go_cell
  generalize ((w.alloc (.cells (dcells d) 88)).alloc (.cells #[.int .i64 op, .int .i64 kd, .int .i64 k1, .int .i64 k2, .int .i32 imm] 110)).alloc (.cells (dcells did0) 88) = w1 at *
  have c37 : w1.cell? ⟨w.heap.size, 37, none⟩ = some d.vm := hD.get (dlist_t d_ok.len 0)
  have HD := lI hD
  clear hD
  go_upto_region 5 with (go_at_call 40; refine (HL.out _ (HC.out.m.below hb0)).mono ?_; rintro e w2 ⟨rfl, rfl⟩)
  go_wp2_with (first | (refine wpList_load_at rfl 88 _ rfl (w.heap.size) 0 rfl (dcells d) _ HD.out.at_ Try.underlying88 rfl (did_size d_ok) ?_))
  refine (trap4_any d d_ok 4 _).mono ?_
  rintro e w2 ⟨rfl, hb2⟩
  have HD2 := lI (HD.out.below om om hb2)
  have d2_ok : (d.trap 4).Ok := ⟨d_ok.len, d_ok.m1, d_ok.o1⟩
  have hbe := hb0.trans (hb2.mono om)
  clear hb2 c37 q0 q1 q2 q3 q4
  have ht : (w2).there (w.heap.size + 2) 0 (dcells (d.trap 4)).size := by rw [dcells_size d2_ok]; exact HD2.out.there
  have hld := load_setCells (P := Try.prog) ht Try.underlying88 rfl (did_size d2_ok)
  go_wp2_with (first | (refine wpList_store_mid rfl 88 _ _ rfl (w.heap.size + 2) 0 (dcells (d.trap 4)) rfl rfl ht (did_size d2_ok) (dlist_all d2_ok) ?_))
  exact bodyPost_ret (results_c1t zE _ zE hld) rfl ⟨_, rfl, (HC.out.below (below_setCells om _ _ _ hbe)).trap 4, .inl rfl, rfl, below_setCells om _ _ _ hbe⟩
theorem atom4_lr (d : DidD) (c : CoreD) (w : World) (hc : DidOf w d c) (wf : c.Wf) (hl : c.m.length ≤ 4096) (kd k1 k2 : Nat) (imm : Int) (hk : kd < 32) (a b : Int) (ha : U32 a) (hb' : U32 b) (hq : mLoadOk c.m 13 a = true) :
    Calls Try.prog 57 #[.agg (dcells d), .agg #[.int .i64 46, .int .i64 kd, .int .i64 k1, .int .i64 k2, .int .i32 imm], .int .u32 a, .int .u32 b] w fun e w' => ∃ d', e = .returned (.tuple #[.agg (dcells d'), .bool true]) ∧ DidOf w' d' ((c.hold true a).set kd (mLoad c.m 13 a)) ∧ (d'.vm = d.vm ∨ ∀ q, d'.vm.ownBlock = some q → w.heap.size ≤ q) ∧ d'.vo = d.vo ∧ Below w.heap.size w w' := by
  have d_ok := hc.ok wf
  have HC := lI hc
  have HL := lI (fun W hW => load3_any d.vm c.m 13 a W hW ha wf.m.getD)
  have HA := lI ha
  have HB := lI hb'
  obtain ⟨old, hold⟩ : ∃ x, x = mLoad c.m 13 a := ⟨_, rfl⟩
  rw [hq, ← hold] at HL
  have HLU := lI (mLoad_u c.m 13 a om ha wf.m.getD)
  rw [← hold] at HLU
  (try rw [← hold])
  go_enter Try.func57, Try.ntmps57
  go_upto_region 1 with (fail)
  show Code.wp _ _ _ _ (((w.alloc (.cells (dcells d) 88)).alloc (.cells #[.int .i64 46, .int .i64 kd, .int .i64 k1, .int .i64 k2, .int .i32 imm] 110)).alloc (.cells (dcells did0) 88))
  have hD := DBox.begin2 (w := w) (tD := 88) (d := d) (z := dcells did0) (o := .cells #[.int .i64 46, .int .i64 kd, .int .i64 k1, .int .i64 k2, .int .i32 imm] 110) (dcells_size did0_ok)
  have hb0 : Below w.heap.size w (((w.alloc (.cells (dcells d) 88)).alloc (.cells #[.int .i64 46, .int .i64 kd, .int .i64 k1, .int .i64 k2, .int .i32 imm] 110)).alloc (.cells (dcells did0) 88)) := Fb.blw
  have hs0 : (((w.alloc (.cells (dcells d) 88)).alloc (.cells #[.int .i64 46, .int .i64 kd, .int .i64 k1, .int .i64 k2, .int .i32 imm] 110)).alloc (.cells (dcells did0) 88)).heap.size = w.heap.size + 3 := by simp
  have q0 : (((w.alloc (.cells (dcells d) 88)).alloc (.cells #[.int .i64 46, .int .i64 kd, .int .i64 k1, .int .i64 k2, .int .i32 imm] 110)).alloc (.cells (dcells did0) 88)).cell? ⟨w.heap.size + 1, 0, none⟩ = some (.int .i64 46) := by go_cell
  have q1 : (((w.alloc (.cells (dcells d) 88)).alloc (.cells #[.int .i64 46, .int .i64 kd, .int .i64 k1, .int .i64 k2, .int .i32 imm] 110)).alloc (.cells (dcells did0) 88)).cell? ⟨w.heap.size + 1, 1, none⟩ = some (.int .i64 kd) := by go_cell
  have q2 : (((w.alloc (.cells (dcells d) 88)).alloc (.cells #[.int .i64 46, .int .i64 kd, .int .i64 k1, .int .i64 k2, .int .i32 imm] 110)).alloc (.cells (dcells did0) 88)).cell? ⟨w.heap.size + 1, 2, none⟩ = some (.int .i64 k1) := by go_cell
  have q3 : (((w.alloc (.cells (dcells d) 88)).alloc (.cells #[.int .i64 46, .int .i64 kd, .int .i64 k1, .int .i64 k2, .int .i32 imm] 110)).alloc (.cells (dcells did0) 88)).cell? ⟨w.heap.size + 1, 3, none⟩ = some (.int .i64 k2) := by go_cell
  have q4 : (((w.alloc (.cells (dcells d) 88)).alloc (.cells #[.int .i64 46, .int .i64 kd, .int .i64 k1, .int .i64 k2, .int .i32 imm] 110)).alloc (.cells (dcells did0) 88)).cell? ⟨w.heap.size + 1, 4, none⟩ = some (.int .i32 imm) := by go_cell
  generalize ((w.alloc (.cells (dcells d) 88)).alloc (.cells #[.int .i64 46, .int .i64 kd, .int .i64 k1, .int .i64 k2, .int .i32 imm] 110)).alloc (.cells (dcells did0) 88) = w1 at *
  have c37 : w1.cell? ⟨w.heap.size, 37, none⟩ = some d.vm := hD.get (dlist_t d_ok.len 0)
  have c33 := hD.get (dlist_h (hlist_held' d_ok.len))
  have c34 := hD.get (dlist_h (hlist_heldAt' d_ok.len))
  have f33 := hD.frz 33
  have f34 := hD.frz 34
  obtain ⟨d1, hd1⟩ : ∃ d1, d1 = ({ d with h := { d.h with held := true, heldAt := a } } : DidD) := ⟨_, rfl⟩
  have d1_ok : d1.Ok := by rw [hd1]; exact ⟨d_ok.len, d_ok.m1, d_ok.o1⟩
  have HD1 : Hid (DBox w.heap.size (w.heap.size + 2) 88 ((w1.setCell ⟨w.heap.size, 33, none⟩ (.bool true)).setCell ⟨w.heap.size, 34, none⟩ (.int .u32 a)) d1) := lI (by
    rw [hd1]
    exact (hD.set (d' := { d with h := { d.h with held := true } }) 33 (.bool true) (by rw [dlist_len d_ok]; omega) (dlist_setH (hlist_setHeld d_ok.len true) (by rw [hlist_len d_ok.len]; omega))).set 34 (.int .u32 a) (by simp [dlist, dtail, hlist, d_ok.len]) (dlist_setH (d := { d with h := { d.h with held := true } }) (hlist_setHeldAt (h := { d.h with held := true }) d_ok.len a) (by simp [hlist, d_ok.len])))
  have hbz := (hb0.setCell (p := ⟨w.heap.size, 33, none⟩) (Nat.le_refl _) (.bool true)).setCell (p := ⟨w.heap.size, 34, none⟩) (Nat.le_refl _) (.int .u32 a)
  have HDC1 : Hid (d1 = { d with h := { d.h with held := true, heldAt := a } }) := lI hd1
  have r1 : ((w1.setCell ⟨w.heap.size, 33, none⟩ (.bool true)).setCell ⟨w.heap.size, 34, none⟩ (.int .u32 a)).cell? ⟨w.heap.size + 1, 1, none⟩ = some (.int .i64 kd) := ((World.cell?_setCell_other _ _ _ _ zR).trans (World.cell?_setCell_other _ _ _ _ zR)).trans q1
  have HSZ : w.heap.size + 3 ≤ (((w1.setCell ⟨w.heap.size, 33, none⟩ (.bool true)).setCell ⟨w.heap.size, 34, none⟩ (.int .u32 a))).heap.size := by simp; omega
  clear hD hd1 hold
  go_upto_region 7 with (go_at_call 40; refine (HL.out _ (HC.out.m.below hb0)).mono ?_; rintro e w2 ⟨rfl, rfl⟩)
  go_upto_region 9 with (fail)
  clear c37 c33 c34 f33 f34
  generalize ((w1.setCell ⟨w.heap.size, 33, none⟩ (.bool true)).setCell ⟨w.heap.size, 34, none⟩ (.int .u32 a)) = wz at *
  go_wp2_with (first | (refine wpList_load_at rfl 88 _ rfl (w.heap.size) 0 rfl (dcells d1) _ HD1.out.at_ Try.underlying88 rfl (did_size d1_ok) ?_))
  refine (set4_any d1 d1_ok kd hk old _).mono ?_
  rintro e w2 ⟨rfl, hb2⟩
  have hsz : w.heap.size + 3 ≤ wz.heap.size := HSZ
  have HD2 := lI (HD1.out.below om om hb2)
  have d2_ok : (d1.set kd old).Ok := d1_ok.setReg _ _
  have hbe := hbz.trans (hb2.mono om)
  clear hb2 q0 q2 q3 q4 r1
  have ht : (w2).there (w.heap.size + 2) 0 (dcells (d1.set kd old)).size := by rw [dcells_size d2_ok]; exact HD2.out.there
  have hld := load_setCells (P := Try.prog) ht Try.underlying88 rfl (did_size d2_ok)
  go_wp2_with (first | (refine wpList_store_mid rfl 88 _ _ rfl (w.heap.size + 2) 0 (dcells (d1.set kd old)) rfl rfl ht (did_size d2_ok) (dlist_all d2_ok) ?_))
  refine bodyPost_ret (results_c1t zE _ zE hld) rfl ⟨_, rfl, ?_, .inl ?_, ?_, below_setCells om _ _ _ hbe⟩
  · rw [HDC1.out]
    exact ((HC.out.below (below_setCells om _ _ _ hbe)).hold true a).set kd old
  · rw [HDC1.out]; rfl
  · rw [HDC1.out]; rfl
end Go.Proofs.Ytlfnddmncbkjaac.W
