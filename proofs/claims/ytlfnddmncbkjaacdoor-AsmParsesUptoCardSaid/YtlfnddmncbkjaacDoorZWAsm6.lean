/- asm.text and asm.Print, walked. -/
import Derived.Test.YtlfnddmncbkjaacDoorZWAsm5
namespace Go.Proofs.YtlfnddmncbkjaacDoor.W
set_option linter.unusedVariables false
set_option linter.unusedSimpArgs false
open Go.RowKit Fb
theorem tab_at {w w1 : World} {B : Nat} {n : String} {k : IntKind} {zs : List Int} (h : Lib.TabBelow Tryd.prog B w n k zs) (hb : Below B w w1) (hB : B ≤ w1.heap.size) : Lib.TabBelow Tryd.prog w1.heap.size w1 n k zs :=
  fun w' hw => h w' (hb.trans (hw.mono hB))
theorem join_any (w : World) (v : Value) (xs : List (List UInt8)) (h : SRow w v xs) (hne : xs ≠ []) (hn : xs.length ≤ 3) (hl : (Lib.join xs [44]).length ≤ 200) :
    Calls Tryd.prog 26 #[v, .string ⟨#[44]⟩] w fun e w' => e = .returned (.string (bs (Lib.join xs [44]))) ∧ Below w.heap.size w w' := by
  rcases h with ⟨h, -⟩ | ⟨b, rfl, hb, hc⟩
  · exact absurd h hne
  have e1 : (xs.map bs).map (fun x : ByteArray => x.data.toList) = xs := by
    rw [List.map_map]
    have : ((fun x : ByteArray => x.data.toList) ∘ bs) = id := by funext x; simp [bs]
    rw [this, List.map_id]
  have := Tryd.strings_Join b 0 xs.length (xs.map bs) ⟨#[44]⟩ w (fun j x hx => by
    rw [List.getElem?_map] at hx
    cases hj : xs[j]? with
    | none => rw [hj] at hx; cases hx
    | some y =>
      rw [hj] at hx
      cases hx
      rw [Nat.zero_add]
      exact hc j y hj) hb (by rw [List.length_map]; omega) (by rw [List.length_map]; exact Nat.le_refl _) (by rw [e1]; exact Nat.le_trans hl (by decide))
  rw [e1, List.length_map] at this
  exact this
theorem _root_.Go.Proofs.YtlfnddmncbkjaacDoor.Fb.SRow.below {w w' : World} {v : Value} {xs : List (List UInt8)} (h : SRow w v xs) (hb : Below w.heap.size w w') : SRow w' v xs := by
  rcases h with h | ⟨b, h1, h2, h3⟩
  · exact .inl h
  · exact .inr ⟨b, h1, Nat.lt_of_lt_of_le h2 hb.size, fun j x hx => (hb.cell (p := ⟨b, j, none⟩) h2).trans (h3 j x hx)⟩
set_option maxRecDepth 100000 in
set_option maxHeartbeats 3200000 in
theorem text_any (op rd rs1 rs2 imm : Int) (hop : 1 ≤ op ∧ op ≤ 59) (hr : (0 ≤ rd ∧ rd ≤ 31) ∧ (0 ≤ rs1 ∧ rs1 ≤ 31) ∧ 0 ≤ rs2 ∧ rs2 ≤ 31) (hi : -2147483648 ≤ imm ∧ imm ≤ 2147483647) (ha : 46 ≤ op ∧ op ≤ 56 → 0 ≤ imm ∧ imm ≤ 3) (w : World)
    (HT : Hid (Lib.TabBelow Tryd.prog w.heap.size w "internal/strconv.uint64pow10" .u64 Lib.pow10Tab)) (HS : Hid (Lib.TabBelow Tryd.prog w.heap.size w "strings.asciiSpace" .u8 Lib.asciiSpaceTab)) :
    Calls Tryd.prog 13 #[.agg #[.int .i64 op, .int .i64 rd, .int .i64 rs1, .int .i64 rs2, .int .i32 imm]] w fun e w' => e = .returned (.string (bs (textS ⟨op, rd, rs1, rs2, imm⟩))) ∧ Below w.heap.size w w' := by
  obtain ⟨w1, hw1⟩ : ∃ w1, w1 = w.alloc (.cells #[.int .i64 op, .int .i64 rd, .int .i64 rs1, .int .i64 rs2, .int .i32 imm] 23) := ⟨_, rfl⟩
  have hb1 : Below w.heap.size w w1 := by rw [hw1]; exact (by repeat (first | with_reducible exact Below.refl _ _ | with_reducible refine below_drewN ?_ _ | ((with_reducible refine Below.setCell ?_ ?hq _); case hq => (first | (simp; done) | (simp; omega))) | ((with_reducible refine Below.alloc ?_ ?hq _); case hq => (first | (simp; done) | (simp; omega)))))
  have hs1 : w.heap.size < w1.heap.size := by rw [hw1]; simp
  have c0 : (w1).cell? ⟨w.heap.size, 0, none⟩ = some (.int .i64 op) := by rw [hw1]; go_cell
  have c1 : (w1).cell? ⟨w.heap.size, 1, none⟩ = some (.int .i64 rd) := by rw [hw1]; go_cell
  have c2 : (w1).cell? ⟨w.heap.size, 2, none⟩ = some (.int .i64 rs1) := by rw [hw1]; go_cell
  have c3 : (w1).cell? ⟨w.heap.size, 3, none⟩ = some (.int .i64 rs2) := by rw [hw1]; go_cell
  have c4 : (w1).cell? ⟨w.heap.size, 4, none⟩ = some (.int .i32 imm) := by rw [hw1]; go_cell
  have HP := Lib.hid (parts_any op rd rs1 rs2 imm hop hr hi w1 (Lib.hid (tab_at HT.out hb1 (Nat.le_of_lt hs1))))
  have HN := Lib.hid (fun W (hW : Below w.heap.size w W) (hB : w.heap.size ≤ W.heap.size) => name_any op rd rs1 rs2 imm hop ha W (Lib.hid (tab_at HS.out hW hB)))
  have HJL := Lib.hid (parts_join_len (i := ⟨op, rd, rs1, rs2, imm⟩) hr hi)
  have hnl := nameS_len op imm
  obtain ⟨xs, hxs⟩ : ∃ x, x = partsS ⟨op, rd, rs1, rs2, imm⟩ := ⟨_, rfl⟩
  obtain ⟨nb, hnb⟩ : ∃ x, x = bs (nameS op imm) := ⟨_, rfl⟩
  obtain ⟨tb, htb⟩ : ∃ x, x = bs (textS ⟨op, rd, rs1, rs2, imm⟩) := ⟨_, rfl⟩
  have HX : Hid (tb = if xs = [] then nb else nb ++ ⟨#[32]⟩ ++ bs (Lib.join xs [44])) := Lib.hid (by
    rw [htb, hxs, hnb]
    unfold textS
    split
    · rfl
    · rw [show (⟨#[32]⟩ : ByteArray) = bs [32] from rfl, bs_app, bs_app, List.append_assoc]; rfl)
  have hnz : nb.size ≤ 15 := by rw [hnb, bs_size]; exact hnl
  rw [← hxs] at HP HJL
  rw [← hnb] at HN
  rw [← htb]
  have HB1 := Lib.hid hb1
  have HW1 := Lib.hid hw1
  clear hw1 hb1 hnb htb hxs hnl hop hr hi ha HT HS
  go_enter Tryd.func13, Tryd.ntmps13
  go_upto_region 1 with (fail)
  rw [← HW1.out]
  go_wp2_with fail
  refine HP.out.mono ?_
  rintro e w2 ⟨⟨v, rfl, hv⟩, hb2⟩
  have hs2 := hb2.size
  have d0 : (w2).cell? ⟨w.heap.size, 0, none⟩ = some (.int .i64 op) := (hb2.cell (p := ⟨w.heap.size, 0, none⟩) (hs1)).trans c0
  have d1 : (w2).cell? ⟨w.heap.size, 1, none⟩ = some (.int .i64 rd) := (hb2.cell (p := ⟨w.heap.size, 1, none⟩) (hs1)).trans c1
  have d2 : (w2).cell? ⟨w.heap.size, 2, none⟩ = some (.int .i64 rs1) := (hb2.cell (p := ⟨w.heap.size, 2, none⟩) (hs1)).trans c2
  have d3 : (w2).cell? ⟨w.heap.size, 3, none⟩ = some (.int .i64 rs2) := (hb2.cell (p := ⟨w.heap.size, 3, none⟩) (hs1)).trans c3
  have d4 : (w2).cell? ⟨w.heap.size, 4, none⟩ = some (.int .i32 imm) := (hb2.cell (p := ⟨w.heap.size, 4, none⟩) (hs1)).trans c4
  have hb02 := HB1.out.trans (hb2.mono HB1.out.size)
  have HN2 := Lib.hid (HN.out w2 hb02 hb02.size)
  have HB2 := Lib.hid hb02
  have HV := Lib.hid hv
  clear c0 c1 c2 c3 c4 hb2 hb02 hv
  have hve : ∃ a c, v = .slice a xs.length c := by
    rcases HV.out with ⟨h1, h2⟩ | ⟨b, h, -, -⟩
    · exact ⟨none, 0, by rw [h1, h2]; rfl⟩
    · exact ⟨_, _, h⟩
  obtain ⟨a, c, rfl⟩ := hve
  by_cases hx : xs = []
  · subst hx
    have HX2 : Hid (tb = nb) := Lib.hid (by rw [HX.out, if_pos rfl])
    clear HX HV HJL
    go_wp2_with fail
    refine HN2.out.mono ?_
    rintro e w3 ⟨rfl, hb3⟩
    go_wp2_with fail
    go_ret
    exact ⟨by rw [HX2.out]; rfl, HB2.out.trans (hb3.mono HB2.out.size)⟩
  · have HX2 : Hid (tb = nb ++ ⟨#[32]⟩ ++ bs (Lib.join xs [44])) := Lib.hid (by rw [HX.out, if_neg hx])
    obtain ⟨hj1, hj2⟩ := HJL.out
    obtain ⟨jb, hjb⟩ : ∃ x, x = bs (Lib.join xs [44]) := ⟨_, rfl⟩
    have HJ := Lib.hid (fun W (hW : Below w2.heap.size w2 W) => join_any W (.slice a xs.length c) xs (HV.out.below hW) hx hj2 hj1)
    have hjz : jb.size ≤ 200 := by rw [hjb, bs_size]; exact hj1
    rw [← hjb] at HJ HX2
    obtain ⟨n, hn⟩ : ∃ n, n = xs.length := ⟨_, rfl⟩
    have hn0 : (n : Int) ≠ 0 := by
      have : 0 < xs.length := List.length_pos_iff.2 hx
      omega
    have hnb : ((n : Int) == 0) = false := beq_eq_false_iff_ne.2 hn0
    rw [← hn] at HJ ⊢
    have hz1 : nb.size + (⟨#[32]⟩ : ByteArray).size ≤ 100 := by show _ + 1 ≤ 100; omega
    have hz2 : (nb ++ (⟨#[32]⟩ : ByteArray)).size + jb.size ≤ 300 := by rw [ByteArray.size_append]; show _ + 1 + _ ≤ 300; omega
    clear HX HV HJL hx hjb hj1 hj2 hn hjz hnz
    go_wp2_with fail
    refine HN2.out.mono ?_
    rintro e w3 ⟨rfl, hb3⟩
    have HB3 := Lib.hid hb3
    clear hb3
    go_wp2_with fail
    refine (HJ.out w3 HB3.out).mono ?_
    rintro e w4 ⟨rfl, hb4⟩
    go_wp2_with fail
    go_ret
    exact ⟨by rw [HX2.out]; rfl, HB2.out.trans ((HB3.out.trans (hb4.mono HB3.out.size)).mono HB2.out.size)⟩
end Go.Proofs.YtlfnddmncbkjaacDoor.W
