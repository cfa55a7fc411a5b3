/- MemTells: for every bytes, every load and store, known or not, any place and any word, the program tells what is there and the bytes behind it, or that it can't be, as the document's answer does. No condition. -/
import Derived.Test.YtlfnddmncbkjaaaWMem
import Derived.Test.YtlfnddmncbkjaaaWRef3
import Derived.Test.YtlfnddmncbkjaaaWRef4Bytes
import Derived.Test.YtlfnddmncbkjaaaOpen
namespace Go.Proofs.Ytlfnddmncbkjaaa.MemTellsLaw
set_option linter.unusedVariables false
set_option linter.unusedSimpArgs false
open Go.RowKit Fb W
set_option maxHeartbeats 400000 in
theorem walk (v : Value) (l : List Int) (op a x : Int) (w : World) (hv : Ints .u8 w v l) (hb : Bytes l) (hr : l.length ≤ 140737488351232) (ha : U32 a) (hx : U32 x) :
    Calls Try.prog 5 #[v, .int .i64 op, .int .u32 a, .int .u32 x] w fun e w' => e = .returned (.bool true) ∧ Below w.heap.size w w' := by
  have HV := Lib.hid hv
  have HA := Lib.hid ha
  have HX := Lib.hid hx
  have HR := Lib.hid (show l.length ≤ 140737488355328 by omega)
  clear hv ha hx hr
  have hbs := Bytes.of_getD (mStore_byte l op a x hb.getD)
  go_enter Try.func5, Try.ntmps5
  go_wp2_with fail
  refine (load_any v l op a w HV.out HA.out hb.getD).mono ?_; rintro e w1 ⟨rfl, rfl⟩
  go_wp2_with fail
  refine (store_any v l op a x _ HV.out HA.out HX.out HR.out).mono ?_; rintro e w1 ⟨⟨v1, rfl, h1⟩, hb1⟩
  have H1 := Lib.hid h1
  have B1 := Lib.hid hb1
  clear h1 hb1
  go_wp2_with fail
  refine (load3_any v l op a w1 (HV.out.below B1.out) HA.out hb.getD).mono ?_; rintro e w2 ⟨rfl, rfl⟩
  go_wp2_with fail
  refine (store3_any v l op a x _ (HV.out.below B1.out) HA.out HX.out HR.out).mono ?_; rintro e w2 ⟨⟨v2, rfl, h2⟩, hb2⟩
  have H2 := Lib.hid h2
  have B2 := Lib.hid hb2
  clear h2 hb2
  go_wp2_with fail
  have hbs2 : Bytes (if mStoreOk l op a = true then mStore l op a x else []) := by
    split
    · exact hbs
    · intro y hy; cases hy
  refine (bytes4_any v1 v2 _ _ w2 (H1.out.below B2.out) H2.out hbs2 hbs2).mono ?_; rintro e w3 ⟨rfl, rfl⟩
  go_wp2_with fail
  go_ret
  refine ⟨?_, B1.out.trans (B2.out.mono B1.out.size)⟩
  simp
open RowB in
set_option maxRecDepth 100000 in
theorem lifted (os : Os) (started : os.Started) (H : Type) (enc : TypeId × Value → H) :
    ReturnsInHanded {} Try.checked os 5 .any (Rows.memTellsSpec.pre6 enc Try.prog Try.f5 Rows.memTellsRow.domain false) (Rows.memTellsSpec.post enc Try.prog Try.f5 false true false false) := by
  refine RowB.law_lifted (C := Try.checked) (tb := 4) (by kernel_rfl) started (by kernel_rfl) (by kernel_rfl)
    (ChangeSpec.witness6 (enc := enc) (C := Try.checked) false ⟨#[], #[.slice none 0 0, .int .i64 0, .int .u32 0, .int .u32 0], []⟩ 8 (by kernel_rfl) (by kernel_rfl) (by kernel_rfl) (by kernel_rfl))
    rfl (fun ds h => by match ds, h with | [_, _, _, _], _ => rfl) (by kernel_rfl) (by kernel_rfl) (by kernel_rfl) (of_decide_eq_true (by kernel_rfl)) ?_
  intro W base args ds ps hval hA _ hz
  have hp : (Try.f5).params.toList = [22, 3, 33, 33] := by kernel_rfl
  rw [hp] at hA hz
  obtain ⟨v0, vs0, d0, ds0, p0, q0, hargs, rfl, rfl, h0, r0⟩ := ChangeShapes.trodAll_cons hA
  obtain ⟨v1, vs1, d1, ds1, p1, q1, rfl, rfl, rfl, h1, r1⟩ := ChangeShapes.trodAll_cons r0
  obtain ⟨v2, vs2, d2, ds2, p2, q2, rfl, rfl, rfl, h2, r2⟩ := ChangeShapes.trodAll_cons r1
  obtain ⟨v3, vs3, d3, ds3, p3, q3, rfl, rfl, rfl, h3, r3⟩ := ChangeShapes.trodAll_cons r2
  obtain ⟨rfl, rfl, rfl⟩ := ChangeShapes.trodAll_nil r3
  obtain rfl : args = #[v0, v1, v2, v3] := by cases args; simp_all
  obtain ⟨z0, y0⟩ := weights_cons hz
  obtain ⟨z1, y1⟩ := weights_cons y0
  obtain ⟨z2, y2⟩ := weights_cons y1
  obtain ⟨z3, y3⟩ := weights_cons y2
  have k0 := hval 0 22 v0 (by kernel_rfl) rfl
  have k1 := hval 1 3 v1 (by kernel_rfl) rfl
  have k2 := hval 2 33 v2 (by kernel_rfl) rfl
  have k3 := hval 3 33 v3 (by kernel_rfl) rfl
  obtain ⟨l, hv, hb, hr⟩ := open_bytes Try.underlying22 Try.underlying5 (by kernel_rfl) (by kernel_rfl) k0 h0 z0
  obtain ⟨op, rfl, rfl, rfl, wo⟩ := ChangeShapes.open_int Try.underlying3 k1 h1
  obtain ⟨a, rfl, rfl, rfl, wa⟩ := ChangeShapes.open_int Try.underlying33 k2 h2
  obtain ⟨x, rfl, rfl, rfl, wx⟩ := ChangeShapes.open_int Try.underlying33 k3 h3
  exact walk v0 l op a x W hv hb hr (Fb.wf_u32 wa) (Fb.wf_u32 wx)
/-- THE STATEMENT -/
theorem proved : Rows.MemTellsSaid :=
  OpenClaim.holds_of_wide 5 Try.f5 rfl rfl rfl rfl rfl rfl rfl ⟨rfl, rfl, rfl, rfl, rfl⟩ rfl rfl rfl rfl rfl (by kernel_rfl) Try.func5 (by kernel_rfl)
    (of_decide_eq_true (by kernel_rfl)) (by unfold Func.isWrapper; first | (rw [if_pos (by decide +kernel)]; kernel_rfl) | (rw [if_neg (by decide +kernel)]; exact ⟨rfl, rfl⟩))
    (fun os started H enc _ => lifted os started H enc)
#print axioms proved
end Go.Proofs.Ytlfnddmncbkjaaa.MemTellsLaw
