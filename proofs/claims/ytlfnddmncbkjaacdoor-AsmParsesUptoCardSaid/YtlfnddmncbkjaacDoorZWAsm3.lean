/- The document's names, walked. -/
import Derived.Test.YtlfnddmncbkjaacDoorZWAsm1
import Derived.Test.YtlfnddmncbkjaacDoorZMA
namespace Go.Proofs.YtlfnddmncbkjaacDoor.Fb
set_option linter.unusedVariables false
set_option linter.unusedSimpArgs false
open Go.RowKit
/-- a row built of known values -/
theorem wpList_buildSliceV {P : Program} {ops : Array Oper} {rest : List Oper} {o : Oper} {a : Act} {w : World} {Q : Exit → Act → World → Prop} (hgd : o.guard = none) (t : TypeId) (n : Nat) (args : Array (Nat × Operand))
    (ho : o.op = .buildSlice t n args) (vs : Array (Nat × Value)) (hv : (args.map fun (i, x) => (i, a.eval x)) = vs) (w' : World) (y : Value)
    (hr : (Instr.buildSlice t n vs).run P w = .ok y w') (h : wpList P ops Q rest (a.put o.dst y) w') : wpList P ops Q (o :: rest) a w :=
  wpList_plain hgd fun K hK => by
    unfold Oper.wp execOp
    simp only [ho, Sem.run_bind, Sem.run_pure, Result.andThen_ok, hv, hr]
    exact hK _ _ h
def baseV : Array (Nat × Value) := ((List.range 59).zip (baseL.map fun l => Value.string (bs l))).toArray
end Go.Proofs.YtlfnddmncbkjaacDoor.Fb
namespace Go.Proofs.YtlfnddmncbkjaacDoor.W
set_option linter.unusedVariables false
set_option linter.unusedSimpArgs false
open Go.RowKit Fb
set_option maxRecDepth 100000 in
theorem base_built (W : World) : ∃ cs : Array Value, (Instr.buildSlice 51 59 baseV).run Tryd.prog W = .ok (.slice (some ⟨W.heap.size, 0, none⟩) 59 59) (W.alloc (.cells cs 9)) ∧ ∀ k, k < 59 → cs[k]? = some (.string (bs (baseL.getD k []))) := by
  refine ⟨(baseL.map fun l => Value.string (bs l)).toArray, by kernel_rfl, fun k hk => ?_⟩
  have hl : k < baseL.length := by rw [base_len]; exact hk
  rw [List.getElem?_toArray, List.getElem?_map, List.getElem?_eq_getElem hl, List.getD, List.getElem?_eq_getElem hl]
  rfl
set_option maxRecDepth 100000 in
set_option maxHeartbeats 3200000 in
theorem name11_any (op imm : Int) (hop : 1 ≤ op ∧ op ≤ 59) (hi : 46 ≤ op ∧ op ≤ 56 → 0 ≤ imm ∧ imm ≤ 3) (w : World) :
    Calls Tryd.prog 15 #[.int .i64 op, .int .i32 imm] w fun e w' => e = .returned (.string (bs (nameS op imm))) ∧ Below w.heap.size w w' := by
  obtain ⟨k, hk⟩ := Int.eq_ofNat_of_zero_le (show 0 ≤ op - 1 by omega)
  obtain rfl : op = (k : Int) + 1 := by omega
  have hk59 : k < 59 := by omega
  obtain ⟨cs, hrun, hcs⟩ := base_built w
  obtain ⟨b0, hb0⟩ : ∃ b, b = bs (baseL.getD k []) := ⟨_, rfl⟩
  obtain ⟨bF, hbF⟩ : ∃ b, b = bs (nameS ((k : Int) + 1) imm) := ⟨_, rfl⟩
  rw [← hbF]
  have hz0 : b0.size ≤ 10 := by rw [hb0, bs_size]; exact base_short k hk59
  have hck : cs[k]? = some (.string b0) := by rw [hb0]; exact hcs k hk59
  have HN : Hid (bF = b0 ++ bs (if 46 ≤ (k : Int) + 1 ∧ (k : Int) + 1 ≤ 56 then [46, 119] else []) ++ bs (if 46 ≤ (k : Int) + 1 ∧ (k : Int) + 1 ≤ 56 then sfx imm else [])) := Lib.hid (by
    rw [hbF, hb0, bs_app, bs_app]
    unfold nameS
    rw [full_base' hop, show ((k : Int) + 1 - 1).toNat = k by omega])
  have HRUN := Lib.hid hrun
  have i0 : (0 : Int) ≤ (k : Int) := by omega
  have i1 : (k : Int) < 59 := by omega
  clear hrun hcs hb0 hbF
  go_enter Tryd.func15, Tryd.ntmps15
  go_upto_region 1 with (fail)
  go_upto_region 2 with (first | (refine wpList_buildSliceV rfl _ _ _ rfl baseV (by kernel_rfl) _ _ HRUN.out ?_))
  have hw1 : Below w.heap.size w (w.alloc (.cells cs 9)) := (by repeat (first | with_reducible exact Below.refl _ _ | with_reducible refine below_drewN ?_ _ | ((with_reducible refine Below.setCell ?_ ?hq _); case hq => (first | (simp; done) | (simp; omega))) | ((with_reducible refine Below.alloc ?_ ?hq _); case hq => (first | (simp; done) | (simp; omega)))))
  have HB1 := Lib.hid hw1
  clear hw1
  by_cases ha : 46 ≤ (k : Int) + 1 ∧ (k : Int) + 1 ≤ 56
  · obtain ⟨ha1, ha2⟩ := ha
    have him := hi ⟨ha1, ha2⟩
    have HN2 : Hid (bF = b0 ++ ⟨#[46, 119]⟩ ++ bs (sfx imm)) := Lib.hid (by rw [HN.out, if_pos ⟨ha1, ha2⟩, if_pos ⟨ha1, ha2⟩]; rfl)
    have hz1 : b0.size + (⟨#[46, 119]⟩ : ByteArray).size ≤ 100 := by show _ + 2 ≤ 100; omega
    have hz2 : (b0 ++ (⟨#[46, 119]⟩ : ByteArray)).size ≤ 20 := by rw [ByteArray.size_append]; show _ + 2 ≤ 20; omega
    have hz3 : ∀ l : List UInt8, l.length ≤ 10 → (b0 ++ (⟨#[46, 119]⟩ : ByteArray)).size + (⟨l.toArray⟩ : ByteArray).size ≤ 100 := fun l hl => by
      have := bs_size l
      unfold bs at this
      omega
    have HZ3 := Lib.hid hz3
    have g1 : ¬ (k : Int) + 1 < 46 := by omega
    have g2 : ¬ 56 < (k : Int) + 1 := by omega
    clear hi HN hz3 hz2
    obtain rfl | rfl | rfl | rfl : imm = 0 ∨ imm = 1 ∨ imm = 2 ∨ imm = 3 := by omega
    · go_wp2_with fail
      go_ret
      refine ⟨?_, HB1.out⟩
      rw [HN2.out, show bs (sfx 0) = ByteArray.empty from rfl, ByteArray.append_empty]
      rfl
    · have hz := HZ3.out [46, 114, 108] (by decide)
      go_wp2_with fail
      go_ret
      exact ⟨by rw [HN2.out]; rfl, HB1.out⟩
    · have hz := HZ3.out [46, 97, 113] (by decide)
      go_wp2_with fail
      go_ret
      exact ⟨by rw [HN2.out]; rfl, HB1.out⟩
    · have hz := HZ3.out [46, 97, 113, 114, 108] (by decide)
      go_wp2_with fail
      go_ret
      exact ⟨by rw [HN2.out]; rfl, HB1.out⟩
  · have HN2 : Hid (bF = b0) := Lib.hid (by
      rw [HN.out, if_neg ha, if_neg ha, show bs [] = ByteArray.empty from rfl, ByteArray.append_empty, ByteArray.append_empty])
    by_cases h46 : (k : Int) + 1 < 46
    · clear ha hi HN
      go_wp2_with fail
      go_ret
      exact ⟨by rw [HN2.out]; rfl, HB1.out⟩
    · have h56 : 56 < (k : Int) + 1 := by omega
      clear ha hi HN
      go_wp2_with fail
      go_ret
      exact ⟨by rw [HN2.out]; rfl, HB1.out⟩
end Go.Proofs.YtlfnddmncbkjaacDoor.W
