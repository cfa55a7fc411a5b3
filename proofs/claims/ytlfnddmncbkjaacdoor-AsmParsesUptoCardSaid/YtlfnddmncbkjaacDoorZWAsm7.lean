/- asm.Print, and the document's text, walked. -/
import Derived.Test.YtlfnddmncbkjaacDoorZWAsm3
import Derived.Test.YtlfnddmncbkjaacDoorZWAsm6
namespace Go.Proofs.YtlfnddmncbkjaacDoor.W
set_option linter.unusedVariables false
set_option linter.unusedSimpArgs false
open Go.RowKit Fb
theorem isS_atom {i : InsD} (h : isS i = true) : 46 ≤ i.op ∧ i.op ≤ 56 → 0 ≤ i.imm ∧ i.imm ≤ 3 := by
  intro ⟨h1, h2⟩
  unfold isS at h
  rw [Bool.and_eq_true] at h
  have h3 := h.2
  rw [if_neg (by omega), if_neg (by omega), if_neg (by omega), if_neg (by omega), if_neg (by omega), if_neg (by omega), if_neg (by omega), if_pos ⟨h1, h2⟩] at h3
  have := of_decide_eq_true h3
  omega
theorem isS_upper {i : InsD} (h : isS i = true) : i.op ≤ 2 → i.imm % 4096 = 0 := by
  intro h1
  unfold isS at h
  rw [Bool.and_eq_true] at h
  have h3 := h.2
  rw [if_pos h1] at h3
  exact (of_decide_eq_true h3).2.2
set_option maxRecDepth 100000 in
set_option maxHeartbeats 1600000 in
theorem print_any (i : InsD) (wf : I32 i.imm) (w : World)
    (HT : Hid (Lib.TabBelow Tryd.prog w.heap.size w "internal/strconv.uint64pow10" .u64 Lib.pow10Tab)) (HS : Hid (Lib.TabBelow Tryd.prog w.heap.size w "strings.asciiSpace" .u8 Lib.asciiSpaceTab)) :
    Calls Tryd.prog 7 #[.agg (icells i)] w fun e w' => e = .returned (.tuple #[.string (if isS i = true then bs (textS i) else ⟨#[]⟩), .int .i64 (if isS i = true then 0 else 2)]) ∧ Below w.heap.size w w' := by
  have HE := Lib.hid (fun W => encode_any i W wf)
  have HR := Lib.hid (fun h : isS i = true => (⟨isS_regs h, isS_atom h⟩ : _ ∧ _))
  obtain ⟨op, rd, rs1, rs2, imm⟩ := i
  obtain ⟨w1, hw1⟩ : ∃ w1, w1 = w.alloc (.cells #[.int .i64 op, .int .i64 rd, .int .i64 rs1, .int .i64 rs2, .int .i32 imm] 23) := ⟨_, rfl⟩
  have hb1 : Below w.heap.size w w1 := by rw [hw1]; exact (by repeat (first | with_reducible exact Below.refl _ _ | with_reducible refine below_drewN ?_ _ | ((with_reducible refine Below.setCell ?_ ?hq _); case hq => (first | (simp; done) | (simp; omega))) | ((with_reducible refine Below.alloc ?_ ?hq _); case hq => (first | (simp; done) | (simp; omega)))))
  have hs1 : w.heap.size < w1.heap.size := by rw [hw1]; simp
  have c0 : (w1).cell? ⟨w.heap.size, 0, none⟩ = some (.int .i64 op) := by rw [hw1]; go_cell
  have c1 : (w1).cell? ⟨w.heap.size, 1, none⟩ = some (.int .i64 rd) := by rw [hw1]; go_cell
  have c2 : (w1).cell? ⟨w.heap.size, 2, none⟩ = some (.int .i64 rs1) := by rw [hw1]; go_cell
  have c3 : (w1).cell? ⟨w.heap.size, 3, none⟩ = some (.int .i64 rs2) := by rw [hw1]; go_cell
  have c4 : (w1).cell? ⟨w.heap.size, 4, none⟩ = some (.int .i32 imm) := by rw [hw1]; go_cell
  have HX : Hid (isS ⟨op, rd, rs1, rs2, imm⟩ = true → ∀ W, Below w.heap.size w W → _) := Lib.hid (fun h W hW => text_any op rd rs1 rs2 imm (HR.out h).1.1 ⟨(HR.out h).1.2.1, (HR.out h).1.2.2.1, (HR.out h).1.2.2.2⟩ wf (HR.out h).2 W (Lib.hid (tab_at HT.out hW hW.size)) (Lib.hid (tab_at HS.out hW hW.size)))
  have HB1 := Lib.hid hb1
  have HW1 := Lib.hid hw1
  simp only [icells] at HE ⊢
  obtain ⟨tb, htb⟩ : ∃ x, x = bs (textS ⟨op, rd, rs1, rs2, imm⟩) := ⟨_, rfl⟩
  rw [← htb] at HX ⊢
  generalize encW ⟨op, rd, rs1, rs2, imm⟩ = cw at *
  generalize isS ⟨op, rd, rs1, rs2, imm⟩ = b at *
  clear hw1 hb1 HT HS HR wf htb
  cases b with
  | false =>
    rw [if_neg (by decide), if_neg (by decide)] at HE ⊢
    clear HX
    go_enter Tryd.func7, Tryd.ntmps7
    go_upto_region 1 with (fail)
    rw [← HW1.out]
    go_wp2_with fail
    refine (HE.out _).mono ?_
    rintro e w2 ⟨rfl, hb2⟩
    have HB2 := Lib.hid hb2
    clear hb2
    go_wp2_with fail
    go_ret2
    exact ⟨rfl, HB1.out.trans (HB2.out.mono HB1.out.size)⟩
  | true =>
    rw [if_pos rfl, if_pos rfl] at HE ⊢
    have HX2 := Lib.hid (HX.out rfl)
    clear HX
    go_enter Tryd.func7, Tryd.ntmps7
    go_upto_region 1 with (fail)
    rw [← HW1.out]
    go_wp2_with fail
    refine (HE.out _).mono ?_
    rintro e w2 ⟨rfl, hb2⟩
    have d0 : (w2).cell? ⟨w.heap.size, 0, none⟩ = some (.int .i64 op) := (hb2.cell (p := ⟨w.heap.size, 0, none⟩) (hs1)).trans c0
    have d1 : (w2).cell? ⟨w.heap.size, 1, none⟩ = some (.int .i64 rd) := (hb2.cell (p := ⟨w.heap.size, 1, none⟩) (hs1)).trans c1
    have d2 : (w2).cell? ⟨w.heap.size, 2, none⟩ = some (.int .i64 rs1) := (hb2.cell (p := ⟨w.heap.size, 2, none⟩) (hs1)).trans c2
    have d3 : (w2).cell? ⟨w.heap.size, 3, none⟩ = some (.int .i64 rs2) := (hb2.cell (p := ⟨w.heap.size, 3, none⟩) (hs1)).trans c3
    have d4 : (w2).cell? ⟨w.heap.size, 4, none⟩ = some (.int .i32 imm) := (hb2.cell (p := ⟨w.heap.size, 4, none⟩) (hs1)).trans c4
    have HB2 := Lib.hid (HB1.out.trans (hb2.mono HB1.out.size))
    have HX3 := Lib.hid (HX2.out w2 HB2.out)
    clear c0 c1 c2 c3 c4 hb2 HX2
    go_wp2_with fail
    refine HX3.out.mono ?_
    rintro e w3 ⟨rfl, hb3⟩
    go_wp2_with fail
    go_ret2
    exact ⟨rfl, HB2.out.trans (hb3.mono HB2.out.size)⟩
theorem lit_bs (l : List UInt8) : (⟨l.toArray⟩ : ByteArray) = bs l := rfl
theorem text_u (op rd rs1 rs2 imm : Int) (h : op = 1 ∨ op = 2) : textS ⟨op, rd, rs1, rs2, imm⟩ = (nameS op imm) ++ [32] ++ (regS rd) ++ [44] ++ (Lib.itoa (imm / 4096)) := by
  have e : partsS ⟨op, rd, rs1, rs2, imm⟩ = [regS rd, Lib.itoa (imm / 4096)] := by
    unfold partsS
    simp only
    rw [if_pos (by omega)]
  unfold textS
  rw [e, if_neg (by simp), join_two]
  simp [atS]
theorem text_j (op rd rs1 rs2 imm : Int) (h : op = 3) : textS ⟨op, rd, rs1, rs2, imm⟩ = (nameS op imm) ++ [32] ++ (regS rd) ++ [44] ++ (Lib.itoa imm) := by
  have e : partsS ⟨op, rd, rs1, rs2, imm⟩ = [regS rd, Lib.itoa imm] := by
    unfold partsS
    simp only
    rw [if_neg (by omega), if_pos (by omega)]
  unfold textS
  rw [e, if_neg (by simp), join_two]
  simp [atS]
theorem text_i (op rd rs1 rs2 imm : Int) (h : op = 4 ∨ (19 ≤ op ∧ op ≤ 27) ∨ op = 57) : textS ⟨op, rd, rs1, rs2, imm⟩ = (nameS op imm) ++ [32] ++ (regS rd) ++ [44] ++ (regS rs1) ++ [44] ++ (Lib.itoa imm) := by
  have e : partsS ⟨op, rd, rs1, rs2, imm⟩ = [regS rd, regS rs1, Lib.itoa imm] := by
    unfold partsS
    simp only
    rw [if_neg (by omega), if_neg (by omega), if_pos (by omega)]
  unfold textS
  rw [e, if_neg (by simp), join_three]
  simp [atS]
theorem text_b (op rd rs1 rs2 imm : Int) (h : 5 ≤ op ∧ op ≤ 10) : textS ⟨op, rd, rs1, rs2, imm⟩ = (nameS op imm) ++ [32] ++ (regS rs1) ++ [44] ++ (regS rs2) ++ [44] ++ (Lib.itoa imm) := by
  have e : partsS ⟨op, rd, rs1, rs2, imm⟩ = [regS rs1, regS rs2, Lib.itoa imm] := by
    unfold partsS
    simp only
    rw [if_neg (by omega), if_neg (by omega), if_neg (by omega), if_pos (by omega)]
  unfold textS
  rw [e, if_neg (by simp), join_three]
  simp [atS]
theorem text_l (op rd rs1 rs2 imm : Int) (h : 11 ≤ op ∧ op ≤ 15) : textS ⟨op, rd, rs1, rs2, imm⟩ = (nameS op imm) ++ [32] ++ (regS rd) ++ [44] ++ (Lib.itoa imm) ++ [40] ++ (regS rs1) ++ [41] := by
  have e : partsS ⟨op, rd, rs1, rs2, imm⟩ = [regS rd, atS rs1 (Lib.itoa imm)] := by
    unfold partsS
    simp only
    rw [if_neg (by omega), if_neg (by omega), if_neg (by omega), if_neg (by omega), if_pos (by omega)]
  unfold textS
  rw [e, if_neg (by simp), join_two]
  simp [atS]
theorem text_st (op rd rs1 rs2 imm : Int) (h : 16 ≤ op ∧ op ≤ 18) : textS ⟨op, rd, rs1, rs2, imm⟩ = (nameS op imm) ++ [32] ++ (regS rs2) ++ [44] ++ (Lib.itoa imm) ++ [40] ++ (regS rs1) ++ [41] := by
  have e : partsS ⟨op, rd, rs1, rs2, imm⟩ = [regS rs2, atS rs1 (Lib.itoa imm)] := by
    unfold partsS
    simp only
    rw [if_neg (by omega), if_neg (by omega), if_neg (by omega), if_neg (by omega), if_neg (by omega), if_pos (by omega)]
  unfold textS
  rw [e, if_neg (by simp), join_two]
  simp [atS]
theorem text_r (op rd rs1 rs2 imm : Int) (h : 28 ≤ op ∧ op ≤ 45) : textS ⟨op, rd, rs1, rs2, imm⟩ = (nameS op imm) ++ [32] ++ (regS rd) ++ [44] ++ (regS rs1) ++ [44] ++ (regS rs2) := by
  have e : partsS ⟨op, rd, rs1, rs2, imm⟩ = [regS rd, regS rs1, regS rs2] := by
    unfold partsS
    simp only
    rw [if_neg (by omega), if_neg (by omega), if_neg (by omega), if_neg (by omega), if_neg (by omega), if_neg (by omega), if_pos (by omega)]
  unfold textS
  rw [e, if_neg (by simp), join_three]
  simp [atS]
theorem text_lr (op rd rs1 rs2 imm : Int) (h : op = 46) : textS ⟨op, rd, rs1, rs2, imm⟩ = (nameS op imm) ++ [32] ++ (regS rd) ++ [44, 40] ++ (regS rs1) ++ [41] := by
  have e : partsS ⟨op, rd, rs1, rs2, imm⟩ = [regS rd, atS rs1 []] := by
    unfold partsS
    simp only
    rw [if_neg (by omega), if_neg (by omega), if_neg (by omega), if_neg (by omega), if_neg (by omega), if_neg (by omega), if_neg (by omega), if_pos (by omega)]
  unfold textS
  rw [e, if_neg (by simp), join_two]
  simp [atS]
theorem text_at (op rd rs1 rs2 imm : Int) (h : 47 ≤ op ∧ op ≤ 56) : textS ⟨op, rd, rs1, rs2, imm⟩ = (nameS op imm) ++ [32] ++ (regS rd) ++ [44] ++ (regS rs2) ++ [44, 40] ++ (regS rs1) ++ [41] := by
  have e : partsS ⟨op, rd, rs1, rs2, imm⟩ = [regS rd, regS rs2, atS rs1 []] := by
    unfold partsS
    simp only
    rw [if_neg (by omega), if_neg (by omega), if_neg (by omega), if_neg (by omega), if_neg (by omega), if_neg (by omega), if_neg (by omega), if_neg (by omega), if_pos (by omega)]
  unfold textS
  rw [e, if_neg (by simp), join_three]
  simp [atS]
theorem text_no (op rd rs1 rs2 imm : Int) (h : op = 58 ∨ op = 59) : textS ⟨op, rd, rs1, rs2, imm⟩ = (nameS op imm) := by
  have e : partsS ⟨op, rd, rs1, rs2, imm⟩ = [] := by
    unfold partsS
    simp only
    rw [if_neg (by omega), if_neg (by omega), if_neg (by omega), if_neg (by omega), if_neg (by omega), if_neg (by omega), if_neg (by omega), if_neg (by omega), if_neg (by omega)]
  unfold textS
  rw [e, if_pos rfl]
set_option maxRecDepth 100000 in
set_option maxHeartbeats 6400000 in
theorem text11_any (op rd rs1 rs2 imm : Int) (hop : 1 ≤ op ∧ op ≤ 59) (hr : (0 ≤ rd ∧ rd ≤ 31) ∧ (0 ≤ rs1 ∧ rs1 ≤ 31) ∧ 0 ≤ rs2 ∧ rs2 ≤ 31) (hi : -2147483648 ≤ imm ∧ imm ≤ 2147483647) (ha : 46 ≤ op ∧ op ≤ 56 → 0 ≤ imm ∧ imm ≤ 3) (hup : op ≤ 2 → imm % 4096 = 0) (w : World) :
    Calls Tryd.prog 9 #[.agg #[.int .i64 op, .int .i64 rd, .int .i64 rs1, .int .i64 rs2, .int .i32 imm]] w fun e w' => e = .returned (.string (bs (textS ⟨op, rd, rs1, rs2, imm⟩))) ∧ Below w.heap.size w w' := by
  obtain ⟨w1, hw1⟩ : ∃ w1, w1 = w.alloc (.cells #[.int .i64 op, .int .i64 rd, .int .i64 rs1, .int .i64 rs2, .int .i32 imm] 23) := ⟨_, rfl⟩
  have hb1 : Below w.heap.size w w1 := by rw [hw1]; exact (by repeat (first | with_reducible exact Below.refl _ _ | with_reducible refine below_drewN ?_ _ | ((with_reducible refine Below.setCell ?_ ?hq _); case hq => (first | (simp; done) | (simp; omega))) | ((with_reducible refine Below.alloc ?_ ?hq _); case hq => (first | (simp; done) | (simp; omega)))))
  have hs1 : w.heap.size < w1.heap.size := by rw [hw1]; simp
  have c0 : (w1).cell? ⟨w.heap.size, 0, none⟩ = some (.int .i64 op) := by rw [hw1]; go_cell
  have c1 : (w1).cell? ⟨w.heap.size, 1, none⟩ = some (.int .i64 rd) := by rw [hw1]; go_cell
  have c2 : (w1).cell? ⟨w.heap.size, 2, none⟩ = some (.int .i64 rs1) := by rw [hw1]; go_cell
  have c3 : (w1).cell? ⟨w.heap.size, 3, none⟩ = some (.int .i64 rs2) := by rw [hw1]; go_cell
  have c4 : (w1).cell? ⟨w.heap.size, 4, none⟩ = some (.int .i32 imm) := by rw [hw1]; go_cell
  have HNM := Lib.hid (fun W => name11_any op imm hop ha W)
  have HN := Lib.hid (fun W => digits_any imm (by omega) W)
  have HU := Lib.hid (fun W => digits_any (imm / 4096) (by omega) W)
  have HRD := Lib.hid (fun W => x11_any rd hr.1 W)
  have HA := Lib.hid (fun W => x11_any rs1 hr.2.1 W)
  have HB := Lib.hid (fun W => x11_any rs2 hr.2.2 W)
  have zs := nameS_len op imm
  have zr := regS_len hr.1
  have za := regS_len hr.2.1
  have zb := regS_len hr.2.2
  have zn := itoa_short imm (by omega)
  have zu := itoa_short (imm / 4096) (by omega)
  have HUP : Hid (op ≤ 2 → imm.tdiv 4096 = imm / 4096) := Lib.hid (fun h => Int.tdiv_eq_ediv_of_dvd (Int.dvd_of_emod_eq_zero (hup h)))
  have HCL : Hid ((op = 1 ∨ op = 2) ∨ (op = 3) ∨ (op = 4 ∨ (19 ≤ op ∧ op ≤ 27) ∨ op = 57) ∨ (5 ≤ op ∧ op ≤ 10) ∨ (11 ≤ op ∧ op ≤ 15) ∨ (16 ≤ op ∧ op ≤ 18) ∨ (28 ≤ op ∧ op ≤ 45) ∨ (op = 46) ∨ (47 ≤ op ∧ op ≤ 56) ∨ (op = 58 ∨ op = 59)) := Lib.hid (by omega)
  rw [← bs_size] at zs zr za zb zn zu
  obtain ⟨tb, htb⟩ : ∃ x, x = bs (textS ⟨op, rd, rs1, rs2, imm⟩) := ⟨_, rfl⟩
  rw [← htb]
  have HX_u : Hid ((op = 1 ∨ op = 2) → tb = bs (nameS op imm) ++ (⟨#[32]⟩ : ByteArray) ++ bs (regS rd) ++ (⟨#[44]⟩ : ByteArray) ++ bs (Lib.itoa (imm / 4096))) := Lib.hid (fun h => by rw [htb, text_u op rd rs1 rs2 imm h]; (try simp only [lit_bs, bs_app]))
  have HX_j : Hid ((op = 3) → tb = bs (nameS op imm) ++ (⟨#[32]⟩ : ByteArray) ++ bs (regS rd) ++ (⟨#[44]⟩ : ByteArray) ++ bs (Lib.itoa imm)) := Lib.hid (fun h => by rw [htb, text_j op rd rs1 rs2 imm h]; (try simp only [lit_bs, bs_app]))
  have HX_i : Hid ((op = 4 ∨ (19 ≤ op ∧ op ≤ 27) ∨ op = 57) → tb = bs (nameS op imm) ++ (⟨#[32]⟩ : ByteArray) ++ bs (regS rd) ++ (⟨#[44]⟩ : ByteArray) ++ bs (regS rs1) ++ (⟨#[44]⟩ : ByteArray) ++ bs (Lib.itoa imm)) := Lib.hid (fun h => by rw [htb, text_i op rd rs1 rs2 imm h]; (try simp only [lit_bs, bs_app]))
  have HX_b : Hid ((5 ≤ op ∧ op ≤ 10) → tb = bs (nameS op imm) ++ (⟨#[32]⟩ : ByteArray) ++ bs (regS rs1) ++ (⟨#[44]⟩ : ByteArray) ++ bs (regS rs2) ++ (⟨#[44]⟩ : ByteArray) ++ bs (Lib.itoa imm)) := Lib.hid (fun h => by rw [htb, text_b op rd rs1 rs2 imm h]; (try simp only [lit_bs, bs_app]))
  have HX_l : Hid ((11 ≤ op ∧ op ≤ 15) → tb = bs (nameS op imm) ++ (⟨#[32]⟩ : ByteArray) ++ bs (regS rd) ++ (⟨#[44]⟩ : ByteArray) ++ bs (Lib.itoa imm) ++ (⟨#[40]⟩ : ByteArray) ++ bs (regS rs1) ++ (⟨#[41]⟩ : ByteArray)) := Lib.hid (fun h => by rw [htb, text_l op rd rs1 rs2 imm h]; (try simp only [lit_bs, bs_app]))
  have HX_st : Hid ((16 ≤ op ∧ op ≤ 18) → tb = bs (nameS op imm) ++ (⟨#[32]⟩ : ByteArray) ++ bs (regS rs2) ++ (⟨#[44]⟩ : ByteArray) ++ bs (Lib.itoa imm) ++ (⟨#[40]⟩ : ByteArray) ++ bs (regS rs1) ++ (⟨#[41]⟩ : ByteArray)) := Lib.hid (fun h => by rw [htb, text_st op rd rs1 rs2 imm h]; (try simp only [lit_bs, bs_app]))
  have HX_r : Hid ((28 ≤ op ∧ op ≤ 45) → tb = bs (nameS op imm) ++ (⟨#[32]⟩ : ByteArray) ++ bs (regS rd) ++ (⟨#[44]⟩ : ByteArray) ++ bs (regS rs1) ++ (⟨#[44]⟩ : ByteArray) ++ bs (regS rs2)) := Lib.hid (fun h => by rw [htb, text_r op rd rs1 rs2 imm h]; (try simp only [lit_bs, bs_app]))
  have HX_lr : Hid ((op = 46) → tb = bs (nameS op imm) ++ (⟨#[32]⟩ : ByteArray) ++ bs (regS rd) ++ (⟨#[44, 40]⟩ : ByteArray) ++ bs (regS rs1) ++ (⟨#[41]⟩ : ByteArray)) := Lib.hid (fun h => by rw [htb, text_lr op rd rs1 rs2 imm h]; (try simp only [lit_bs, bs_app]))
  have HX_at : Hid ((47 ≤ op ∧ op ≤ 56) → tb = bs (nameS op imm) ++ (⟨#[32]⟩ : ByteArray) ++ bs (regS rd) ++ (⟨#[44]⟩ : ByteArray) ++ bs (regS rs2) ++ (⟨#[44, 40]⟩ : ByteArray) ++ bs (regS rs1) ++ (⟨#[41]⟩ : ByteArray)) := Lib.hid (fun h => by rw [htb, text_at op rd rs1 rs2 imm h]; (try simp only [lit_bs, bs_app]))
  have HX_no : Hid ((op = 58 ∨ op = 59) → tb = bs (nameS op imm)) := Lib.hid (fun h => by rw [htb, text_no op rd rs1 rs2 imm h]; (try simp only [lit_bs, bs_app]))
  obtain ⟨sb, hsb⟩ : ∃ x, x = bs (nameS op imm) := ⟨_, rfl⟩
  obtain ⟨rb, hrb⟩ : ∃ x, x = bs (regS rd) := ⟨_, rfl⟩
  obtain ⟨ab, hab⟩ : ∃ x, x = bs (regS rs1) := ⟨_, rfl⟩
  obtain ⟨bb, hbb⟩ : ∃ x, x = bs (regS rs2) := ⟨_, rfl⟩
  obtain ⟨nb, hnb⟩ : ∃ x, x = bs (Lib.itoa imm) := ⟨_, rfl⟩
  obtain ⟨ub, hub⟩ : ∃ x, x = bs (Lib.itoa (imm / 4096)) := ⟨_, rfl⟩
  rw [← hsb] at zs HNM
  rw [← hrb] at zr HRD
  rw [← hab] at za HA
  rw [← hbb] at zb HB
  rw [← hnb] at zn HN
  rw [← hub] at zu HU
  simp only [← hsb, ← hrb, ← hab, ← hbb, ← hnb, ← hub] at HX_u HX_j HX_i HX_b HX_l HX_st HX_r HX_lr HX_at HX_no
  have HZ := Lib.hid (And.intro zs (And.intro zr (And.intro za (And.intro zb (And.intro zn zu)))))
  obtain ⟨o0, o1⟩ := hop
  obtain ⟨i0, i1⟩ := hi
  have HWI : Hid (IntKind.i64.wrap imm = imm) := Lib.hid (by simp (disch := omega) only [IntWalk.i64_in])
  have HW1 := Lib.hid hw1
  have HB1 := Lib.hid hb1
  clear hw1 hb1 htb hsb hrb hab hbb hnb hub zs zr za zb zn zu hr ha hup
  go_enter Tryd.func9, Tryd.ntmps9
  go_upto_region 1 with (fail)
  rw [← HW1.out]
  go_wp2_with fail
  refine (HNM.out _).mono ?_
  rintro e v0 ⟨rfl, hb⟩
  have d0 : (v0).cell? ⟨w.heap.size, 0, none⟩ = some (.int .i64 op) := (hb.cell (p := ⟨w.heap.size, 0, none⟩) (hs1)).trans c0
  have d1 : (v0).cell? ⟨w.heap.size, 1, none⟩ = some (.int .i64 rd) := (hb.cell (p := ⟨w.heap.size, 1, none⟩) (hs1)).trans c1
  have d2 : (v0).cell? ⟨w.heap.size, 2, none⟩ = some (.int .i64 rs1) := (hb.cell (p := ⟨w.heap.size, 2, none⟩) (hs1)).trans c2
  have d3 : (v0).cell? ⟨w.heap.size, 3, none⟩ = some (.int .i64 rs2) := (hb.cell (p := ⟨w.heap.size, 3, none⟩) (hs1)).trans c3
  have d4 : (v0).cell? ⟨w.heap.size, 4, none⟩ = some (.int .i32 imm) := (hb.cell (p := ⟨w.heap.size, 4, none⟩) (hs1)).trans c4
  have s0 : w.heap.size < v0.heap.size := Nat.lt_of_lt_of_le hs1 hb.size
  have HV0 := Lib.hid (HB1.out.trans (hb.mono HB1.out.size))
  clear c0 c1 c2 c3 c4 hb hs1
  go_wp2_with fail
  (try rw [HWI.out])
  refine (HN.out _).mono ?_
  rintro e v1 ⟨rfl, hb⟩
  have e0 : (v1).cell? ⟨w.heap.size, 0, none⟩ = some (.int .i64 op) := (hb.cell (p := ⟨w.heap.size, 0, none⟩) (s0)).trans d0
  have e1 : (v1).cell? ⟨w.heap.size, 1, none⟩ = some (.int .i64 rd) := (hb.cell (p := ⟨w.heap.size, 1, none⟩) (s0)).trans d1
  have e2 : (v1).cell? ⟨w.heap.size, 2, none⟩ = some (.int .i64 rs1) := (hb.cell (p := ⟨w.heap.size, 2, none⟩) (s0)).trans d2
  have e3 : (v1).cell? ⟨w.heap.size, 3, none⟩ = some (.int .i64 rs2) := (hb.cell (p := ⟨w.heap.size, 3, none⟩) (s0)).trans d3
  have e4 : (v1).cell? ⟨w.heap.size, 4, none⟩ = some (.int .i32 imm) := (hb.cell (p := ⟨w.heap.size, 4, none⟩) (s0)).trans d4
  have s1 : w.heap.size < v1.heap.size := Nat.lt_of_lt_of_le s0 hb.size
  have HV1 := Lib.hid (HV0.out.trans (hb.mono HV0.out.size))
  clear d0 d1 d2 d3 d4 hb s0
  go_wp2_with fail
  refine (HRD.out _).mono ?_
  rintro e v2 ⟨rfl, hb⟩
  have f0 : (v2).cell? ⟨w.heap.size, 0, none⟩ = some (.int .i64 op) := (hb.cell (p := ⟨w.heap.size, 0, none⟩) (s1)).trans e0
  have f1 : (v2).cell? ⟨w.heap.size, 1, none⟩ = some (.int .i64 rd) := (hb.cell (p := ⟨w.heap.size, 1, none⟩) (s1)).trans e1
  have f2 : (v2).cell? ⟨w.heap.size, 2, none⟩ = some (.int .i64 rs1) := (hb.cell (p := ⟨w.heap.size, 2, none⟩) (s1)).trans e2
  have f3 : (v2).cell? ⟨w.heap.size, 3, none⟩ = some (.int .i64 rs2) := (hb.cell (p := ⟨w.heap.size, 3, none⟩) (s1)).trans e3
  have f4 : (v2).cell? ⟨w.heap.size, 4, none⟩ = some (.int .i32 imm) := (hb.cell (p := ⟨w.heap.size, 4, none⟩) (s1)).trans e4
  have s2 : w.heap.size < v2.heap.size := Nat.lt_of_lt_of_le s1 hb.size
  have HV2 := Lib.hid (HV1.out.trans (hb.mono HV1.out.size))
  clear e0 e1 e2 e3 e4 hb s1
  go_wp2_with fail
  refine (HA.out _).mono ?_
  rintro e v3 ⟨rfl, hb⟩
  have g0 : (v3).cell? ⟨w.heap.size, 0, none⟩ = some (.int .i64 op) := (hb.cell (p := ⟨w.heap.size, 0, none⟩) (s2)).trans f0
  have g1 : (v3).cell? ⟨w.heap.size, 1, none⟩ = some (.int .i64 rd) := (hb.cell (p := ⟨w.heap.size, 1, none⟩) (s2)).trans f1
  have g2 : (v3).cell? ⟨w.heap.size, 2, none⟩ = some (.int .i64 rs1) := (hb.cell (p := ⟨w.heap.size, 2, none⟩) (s2)).trans f2
  have g3 : (v3).cell? ⟨w.heap.size, 3, none⟩ = some (.int .i64 rs2) := (hb.cell (p := ⟨w.heap.size, 3, none⟩) (s2)).trans f3
  have g4 : (v3).cell? ⟨w.heap.size, 4, none⟩ = some (.int .i32 imm) := (hb.cell (p := ⟨w.heap.size, 4, none⟩) (s2)).trans f4
  have s3 : w.heap.size < v3.heap.size := Nat.lt_of_lt_of_le s2 hb.size
  have HV3 := Lib.hid (HV2.out.trans (hb.mono HV2.out.size))
  clear f0 f1 f2 f3 f4 hb s2
  go_wp2_with fail
  refine (HB.out _).mono ?_
  rintro e v4 ⟨rfl, hb⟩
  have h0 : (v4).cell? ⟨w.heap.size, 0, none⟩ = some (.int .i64 op) := (hb.cell (p := ⟨w.heap.size, 0, none⟩) (s3)).trans g0
  have h1 : (v4).cell? ⟨w.heap.size, 1, none⟩ = some (.int .i64 rd) := (hb.cell (p := ⟨w.heap.size, 1, none⟩) (s3)).trans g1
  have h2 : (v4).cell? ⟨w.heap.size, 2, none⟩ = some (.int .i64 rs1) := (hb.cell (p := ⟨w.heap.size, 2, none⟩) (s3)).trans g2
  have h3 : (v4).cell? ⟨w.heap.size, 3, none⟩ = some (.int .i64 rs2) := (hb.cell (p := ⟨w.heap.size, 3, none⟩) (s3)).trans g3
  have h4 : (v4).cell? ⟨w.heap.size, 4, none⟩ = some (.int .i32 imm) := (hb.cell (p := ⟨w.heap.size, 4, none⟩) (s3)).trans g4
  have s4 : w.heap.size < v4.heap.size := Nat.lt_of_lt_of_le s3 hb.size
  have HV4 := Lib.hid (HV3.out.trans (hb.mono HV3.out.size))
  clear g0 g1 g2 g3 g4 hb s3
  have l32 : (⟨#[32]⟩ : ByteArray).size = 1 := rfl
  have l40 : (⟨#[40]⟩ : ByteArray).size = 1 := rfl
  have l41 : (⟨#[41]⟩ : ByteArray).size = 1 := rfl
  have l44 : (⟨#[44]⟩ : ByteArray).size = 1 := rfl
  have l440 : (⟨#[44, 40]⟩ : ByteArray).size = 2 := rfl
  obtain ⟨zs, zr, za, zb, zn, zu⟩ := HZ.out
  rcases HCL.out with h | h | h | h | h | h | h | h | h | h
  · skip
    have HX := Lib.hid (HX_u.out h)
    have z0 : sb.size + (⟨#[32]⟩ : ByteArray).size ≤ 400 := by (simp only [ByteArray.size_append, l32, l40, l41, l44, l440]; omega)
    have z1 : (sb ++ (⟨#[32]⟩ : ByteArray)).size + rb.size ≤ 400 := by (simp only [ByteArray.size_append, l32, l40, l41, l44, l440]; omega)
    have z2 : (sb ++ (⟨#[32]⟩ : ByteArray) ++ rb).size + (⟨#[44]⟩ : ByteArray).size ≤ 400 := by (simp only [ByteArray.size_append, l32, l40, l41, l44, l440]; omega)
    have z3 : (sb ++ (⟨#[32]⟩ : ByteArray) ++ rb ++ (⟨#[44]⟩ : ByteArray)).size + ub.size ≤ 400 := by (simp only [ByteArray.size_append, l32, l40, l41, l44, l440]; omega)
    have HUP2 := Lib.hid (HUP.out (by omega))
    have HH := Lib.hid h
    clear l32 l40 l41 l44 l440 zs zr za zb zn zu h
    rcases HH.out with hh | hh
    · subst hh
      go_wp2_with fail
      (try rw [HUP2.out])
      refine (HU.out _).mono ?_
      rintro e v5 ⟨rfl, hb⟩
      have HV5 := Lib.hid (HV4.out.trans (hb.mono HV4.out.size))
      clear hb
      go_wp2_with fail
      go_ret
      exact ⟨by rw [HX.out]; rfl, HV5.out⟩
    · subst hh
      go_wp2_with fail
      (try rw [HUP2.out])
      refine (HU.out _).mono ?_
      rintro e v5 ⟨rfl, hb⟩
      have HV5 := Lib.hid (HV4.out.trans (hb.mono HV4.out.size))
      clear hb
      go_wp2_with fail
      go_ret
      exact ⟨by rw [HX.out]; rfl, HV5.out⟩
  · skip
    have HX := Lib.hid (HX_j.out h)
    have z0 : sb.size + (⟨#[32]⟩ : ByteArray).size ≤ 400 := by (simp only [ByteArray.size_append, l32, l40, l41, l44, l440]; omega)
    have z1 : (sb ++ (⟨#[32]⟩ : ByteArray)).size + rb.size ≤ 400 := by (simp only [ByteArray.size_append, l32, l40, l41, l44, l440]; omega)
    have z2 : (sb ++ (⟨#[32]⟩ : ByteArray) ++ rb).size + (⟨#[44]⟩ : ByteArray).size ≤ 400 := by (simp only [ByteArray.size_append, l32, l40, l41, l44, l440]; omega)
    have z3 : (sb ++ (⟨#[32]⟩ : ByteArray) ++ rb ++ (⟨#[44]⟩ : ByteArray)).size + nb.size ≤ 400 := by (simp only [ByteArray.size_append, l32, l40, l41, l44, l440]; omega)
    have HH := Lib.hid h
    clear l32 l40 l41 l44 l440 zs zr za zb zn zu h
    have hh := HH.out
    subst hh
    go_wp2_with fail
    go_ret
    exact ⟨by rw [HX.out]; rfl, HV4.out⟩
  · skip
    have HX := Lib.hid (HX_i.out h)
    have z0 : sb.size + (⟨#[32]⟩ : ByteArray).size ≤ 400 := by (simp only [ByteArray.size_append, l32, l40, l41, l44, l440]; omega)
    have z1 : (sb ++ (⟨#[32]⟩ : ByteArray)).size + rb.size ≤ 400 := by (simp only [ByteArray.size_append, l32, l40, l41, l44, l440]; omega)
    have z2 : (sb ++ (⟨#[32]⟩ : ByteArray) ++ rb).size + (⟨#[44]⟩ : ByteArray).size ≤ 400 := by (simp only [ByteArray.size_append, l32, l40, l41, l44, l440]; omega)
    have z3 : (sb ++ (⟨#[32]⟩ : ByteArray) ++ rb ++ (⟨#[44]⟩ : ByteArray)).size + ab.size ≤ 400 := by (simp only [ByteArray.size_append, l32, l40, l41, l44, l440]; omega)
    have z4 : (sb ++ (⟨#[32]⟩ : ByteArray) ++ rb ++ (⟨#[44]⟩ : ByteArray) ++ ab).size + (⟨#[44]⟩ : ByteArray).size ≤ 400 := by (simp only [ByteArray.size_append, l32, l40, l41, l44, l440]; omega)
    have z5 : (sb ++ (⟨#[32]⟩ : ByteArray) ++ rb ++ (⟨#[44]⟩ : ByteArray) ++ ab ++ (⟨#[44]⟩ : ByteArray)).size + nb.size ≤ 400 := by (simp only [ByteArray.size_append, l32, l40, l41, l44, l440]; omega)
    have HH := Lib.hid h
    clear l32 l40 l41 l44 l440 zs zr za zb zn zu h
    rcases HH.out with hh | ⟨g1, g2⟩ | hh
    · subst hh
      go_wp2_with fail
      go_ret
      exact ⟨by rw [HX.out]; rfl, HV4.out⟩
    · skip
      have q1 : (op == 1) = false := beq_eq_false_iff_ne.2 (by omega)
      have q2 : (op == 2) = false := beq_eq_false_iff_ne.2 (by omega)
      have q3 : (op == 3) = false := beq_eq_false_iff_ne.2 (by omega)
      have q4 : (op == 4) = false := beq_eq_false_iff_ne.2 (by omega)
      have q46 : (op == 46) = false := beq_eq_false_iff_ne.2 (by omega)
      have q57 : (op == 57) = false := beq_eq_false_iff_ne.2 (by omega)
      go_wp2_with fail
      go_ret
      exact ⟨by rw [HX.out]; rfl, HV4.out⟩
    · subst hh
      go_wp2_with fail
      go_ret
      exact ⟨by rw [HX.out]; rfl, HV4.out⟩
  · skip
    have HX := Lib.hid (HX_b.out h)
    have z0 : sb.size + (⟨#[32]⟩ : ByteArray).size ≤ 400 := by (simp only [ByteArray.size_append, l32, l40, l41, l44, l440]; omega)
    have z1 : (sb ++ (⟨#[32]⟩ : ByteArray)).size + ab.size ≤ 400 := by (simp only [ByteArray.size_append, l32, l40, l41, l44, l440]; omega)
    have z2 : (sb ++ (⟨#[32]⟩ : ByteArray) ++ ab).size + (⟨#[44]⟩ : ByteArray).size ≤ 400 := by (simp only [ByteArray.size_append, l32, l40, l41, l44, l440]; omega)
    have z3 : (sb ++ (⟨#[32]⟩ : ByteArray) ++ ab ++ (⟨#[44]⟩ : ByteArray)).size + bb.size ≤ 400 := by (simp only [ByteArray.size_append, l32, l40, l41, l44, l440]; omega)
    have z4 : (sb ++ (⟨#[32]⟩ : ByteArray) ++ ab ++ (⟨#[44]⟩ : ByteArray) ++ bb).size + (⟨#[44]⟩ : ByteArray).size ≤ 400 := by (simp only [ByteArray.size_append, l32, l40, l41, l44, l440]; omega)
    have z5 : (sb ++ (⟨#[32]⟩ : ByteArray) ++ ab ++ (⟨#[44]⟩ : ByteArray) ++ bb ++ (⟨#[44]⟩ : ByteArray)).size + nb.size ≤ 400 := by (simp only [ByteArray.size_append, l32, l40, l41, l44, l440]; omega)
    have HH := Lib.hid h
    clear l32 l40 l41 l44 l440 zs zr za zb zn zu h
    obtain ⟨g1, g2⟩ := HH.out
    have q1 : (op == 1) = false := beq_eq_false_iff_ne.2 (by omega)
    have q2 : (op == 2) = false := beq_eq_false_iff_ne.2 (by omega)
    have q3 : (op == 3) = false := beq_eq_false_iff_ne.2 (by omega)
    have q4 : (op == 4) = false := beq_eq_false_iff_ne.2 (by omega)
    have q46 : (op == 46) = false := beq_eq_false_iff_ne.2 (by omega)
    have q57 : (op == 57) = false := beq_eq_false_iff_ne.2 (by omega)
    go_wp2_with fail
    go_ret
    exact ⟨by rw [HX.out]; rfl, HV4.out⟩
  · skip
    have HX := Lib.hid (HX_l.out h)
    have z0 : sb.size + (⟨#[32]⟩ : ByteArray).size ≤ 400 := by (simp only [ByteArray.size_append, l32, l40, l41, l44, l440]; omega)
    have z1 : (sb ++ (⟨#[32]⟩ : ByteArray)).size + rb.size ≤ 400 := by (simp only [ByteArray.size_append, l32, l40, l41, l44, l440]; omega)
    have z2 : (sb ++ (⟨#[32]⟩ : ByteArray) ++ rb).size + (⟨#[44]⟩ : ByteArray).size ≤ 400 := by (simp only [ByteArray.size_append, l32, l40, l41, l44, l440]; omega)
    have z3 : (sb ++ (⟨#[32]⟩ : ByteArray) ++ rb ++ (⟨#[44]⟩ : ByteArray)).size + nb.size ≤ 400 := by (simp only [ByteArray.size_append, l32, l40, l41, l44, l440]; omega)
    have z4 : (sb ++ (⟨#[32]⟩ : ByteArray) ++ rb ++ (⟨#[44]⟩ : ByteArray) ++ nb).size + (⟨#[40]⟩ : ByteArray).size ≤ 400 := by (simp only [ByteArray.size_append, l32, l40, l41, l44, l440]; omega)
    have z5 : (sb ++ (⟨#[32]⟩ : ByteArray) ++ rb ++ (⟨#[44]⟩ : ByteArray) ++ nb ++ (⟨#[40]⟩ : ByteArray)).size + ab.size ≤ 400 := by (simp only [ByteArray.size_append, l32, l40, l41, l44, l440]; omega)
    have z6 : (sb ++ (⟨#[32]⟩ : ByteArray) ++ rb ++ (⟨#[44]⟩ : ByteArray) ++ nb ++ (⟨#[40]⟩ : ByteArray) ++ ab).size + (⟨#[41]⟩ : ByteArray).size ≤ 400 := by (simp only [ByteArray.size_append, l32, l40, l41, l44, l440]; omega)
    have HH := Lib.hid h
    clear l32 l40 l41 l44 l440 zs zr za zb zn zu h
    obtain ⟨g1, g2⟩ := HH.out
    have q1 : (op == 1) = false := beq_eq_false_iff_ne.2 (by omega)
    have q2 : (op == 2) = false := beq_eq_false_iff_ne.2 (by omega)
    have q3 : (op == 3) = false := beq_eq_false_iff_ne.2 (by omega)
    have q4 : (op == 4) = false := beq_eq_false_iff_ne.2 (by omega)
    have q46 : (op == 46) = false := beq_eq_false_iff_ne.2 (by omega)
    have q57 : (op == 57) = false := beq_eq_false_iff_ne.2 (by omega)
    go_wp2_with fail
    go_ret
    exact ⟨by rw [HX.out]; rfl, HV4.out⟩
  · skip
    have HX := Lib.hid (HX_st.out h)
    have z0 : sb.size + (⟨#[32]⟩ : ByteArray).size ≤ 400 := by (simp only [ByteArray.size_append, l32, l40, l41, l44, l440]; omega)
    have z1 : (sb ++ (⟨#[32]⟩ : ByteArray)).size + bb.size ≤ 400 := by (simp only [ByteArray.size_append, l32, l40, l41, l44, l440]; omega)
    have z2 : (sb ++ (⟨#[32]⟩ : ByteArray) ++ bb).size + (⟨#[44]⟩ : ByteArray).size ≤ 400 := by (simp only [ByteArray.size_append, l32, l40, l41, l44, l440]; omega)
    have z3 : (sb ++ (⟨#[32]⟩ : ByteArray) ++ bb ++ (⟨#[44]⟩ : ByteArray)).size + nb.size ≤ 400 := by (simp only [ByteArray.size_append, l32, l40, l41, l44, l440]; omega)
    have z4 : (sb ++ (⟨#[32]⟩ : ByteArray) ++ bb ++ (⟨#[44]⟩ : ByteArray) ++ nb).size + (⟨#[40]⟩ : ByteArray).size ≤ 400 := by (simp only [ByteArray.size_append, l32, l40, l41, l44, l440]; omega)
    have z5 : (sb ++ (⟨#[32]⟩ : ByteArray) ++ bb ++ (⟨#[44]⟩ : ByteArray) ++ nb ++ (⟨#[40]⟩ : ByteArray)).size + ab.size ≤ 400 := by (simp only [ByteArray.size_append, l32, l40, l41, l44, l440]; omega)
    have z6 : (sb ++ (⟨#[32]⟩ : ByteArray) ++ bb ++ (⟨#[44]⟩ : ByteArray) ++ nb ++ (⟨#[40]⟩ : ByteArray) ++ ab).size + (⟨#[41]⟩ : ByteArray).size ≤ 400 := by (simp only [ByteArray.size_append, l32, l40, l41, l44, l440]; omega)
    have HH := Lib.hid h
    clear l32 l40 l41 l44 l440 zs zr za zb zn zu h
    obtain ⟨g1, g2⟩ := HH.out
    have q1 : (op == 1) = false := beq_eq_false_iff_ne.2 (by omega)
    have q2 : (op == 2) = false := beq_eq_false_iff_ne.2 (by omega)
    have q3 : (op == 3) = false := beq_eq_false_iff_ne.2 (by omega)
    have q4 : (op == 4) = false := beq_eq_false_iff_ne.2 (by omega)
    have q46 : (op == 46) = false := beq_eq_false_iff_ne.2 (by omega)
    have q57 : (op == 57) = false := beq_eq_false_iff_ne.2 (by omega)
    go_wp2_with fail
    go_ret
    exact ⟨by rw [HX.out]; rfl, HV4.out⟩
  · skip
    have HX := Lib.hid (HX_r.out h)
    have z0 : sb.size + (⟨#[32]⟩ : ByteArray).size ≤ 400 := by (simp only [ByteArray.size_append, l32, l40, l41, l44, l440]; omega)
    have z1 : (sb ++ (⟨#[32]⟩ : ByteArray)).size + rb.size ≤ 400 := by (simp only [ByteArray.size_append, l32, l40, l41, l44, l440]; omega)
    have z2 : (sb ++ (⟨#[32]⟩ : ByteArray) ++ rb).size + (⟨#[44]⟩ : ByteArray).size ≤ 400 := by (simp only [ByteArray.size_append, l32, l40, l41, l44, l440]; omega)
    have z3 : (sb ++ (⟨#[32]⟩ : ByteArray) ++ rb ++ (⟨#[44]⟩ : ByteArray)).size + ab.size ≤ 400 := by (simp only [ByteArray.size_append, l32, l40, l41, l44, l440]; omega)
    have z4 : (sb ++ (⟨#[32]⟩ : ByteArray) ++ rb ++ (⟨#[44]⟩ : ByteArray) ++ ab).size + (⟨#[44]⟩ : ByteArray).size ≤ 400 := by (simp only [ByteArray.size_append, l32, l40, l41, l44, l440]; omega)
    have z5 : (sb ++ (⟨#[32]⟩ : ByteArray) ++ rb ++ (⟨#[44]⟩ : ByteArray) ++ ab ++ (⟨#[44]⟩ : ByteArray)).size + bb.size ≤ 400 := by (simp only [ByteArray.size_append, l32, l40, l41, l44, l440]; omega)
    have HH := Lib.hid h
    clear l32 l40 l41 l44 l440 zs zr za zb zn zu h
    obtain ⟨g1, g2⟩ := HH.out
    have q1 : (op == 1) = false := beq_eq_false_iff_ne.2 (by omega)
    have q2 : (op == 2) = false := beq_eq_false_iff_ne.2 (by omega)
    have q3 : (op == 3) = false := beq_eq_false_iff_ne.2 (by omega)
    have q4 : (op == 4) = false := beq_eq_false_iff_ne.2 (by omega)
    have q46 : (op == 46) = false := beq_eq_false_iff_ne.2 (by omega)
    have q57 : (op == 57) = false := beq_eq_false_iff_ne.2 (by omega)
    go_wp2_with fail
    go_ret
    exact ⟨by rw [HX.out]; rfl, HV4.out⟩
  · skip
    have HX := Lib.hid (HX_lr.out h)
    have z0 : sb.size + (⟨#[32]⟩ : ByteArray).size ≤ 400 := by (simp only [ByteArray.size_append, l32, l40, l41, l44, l440]; omega)
    have z1 : (sb ++ (⟨#[32]⟩ : ByteArray)).size + rb.size ≤ 400 := by (simp only [ByteArray.size_append, l32, l40, l41, l44, l440]; omega)
    have z2 : (sb ++ (⟨#[32]⟩ : ByteArray) ++ rb).size + (⟨#[44, 40]⟩ : ByteArray).size ≤ 400 := by (simp only [ByteArray.size_append, l32, l40, l41, l44, l440]; omega)
    have z3 : (sb ++ (⟨#[32]⟩ : ByteArray) ++ rb ++ (⟨#[44, 40]⟩ : ByteArray)).size + ab.size ≤ 400 := by (simp only [ByteArray.size_append, l32, l40, l41, l44, l440]; omega)
    have z4 : (sb ++ (⟨#[32]⟩ : ByteArray) ++ rb ++ (⟨#[44, 40]⟩ : ByteArray) ++ ab).size + (⟨#[41]⟩ : ByteArray).size ≤ 400 := by (simp only [ByteArray.size_append, l32, l40, l41, l44, l440]; omega)
    have HH := Lib.hid h
    clear l32 l40 l41 l44 l440 zs zr za zb zn zu h
    have hh := HH.out
    subst hh
    go_wp2_with fail
    go_ret
    exact ⟨by rw [HX.out]; rfl, HV4.out⟩
  · skip
    have HX := Lib.hid (HX_at.out h)
    have z0 : sb.size + (⟨#[32]⟩ : ByteArray).size ≤ 400 := by (simp only [ByteArray.size_append, l32, l40, l41, l44, l440]; omega)
    have z1 : (sb ++ (⟨#[32]⟩ : ByteArray)).size + rb.size ≤ 400 := by (simp only [ByteArray.size_append, l32, l40, l41, l44, l440]; omega)
    have z2 : (sb ++ (⟨#[32]⟩ : ByteArray) ++ rb).size + (⟨#[44]⟩ : ByteArray).size ≤ 400 := by (simp only [ByteArray.size_append, l32, l40, l41, l44, l440]; omega)
    have z3 : (sb ++ (⟨#[32]⟩ : ByteArray) ++ rb ++ (⟨#[44]⟩ : ByteArray)).size + bb.size ≤ 400 := by (simp only [ByteArray.size_append, l32, l40, l41, l44, l440]; omega)
    have z4 : (sb ++ (⟨#[32]⟩ : ByteArray) ++ rb ++ (⟨#[44]⟩ : ByteArray) ++ bb).size + (⟨#[44, 40]⟩ : ByteArray).size ≤ 400 := by (simp only [ByteArray.size_append, l32, l40, l41, l44, l440]; omega)
    have z5 : (sb ++ (⟨#[32]⟩ : ByteArray) ++ rb ++ (⟨#[44]⟩ : ByteArray) ++ bb ++ (⟨#[44, 40]⟩ : ByteArray)).size + ab.size ≤ 400 := by (simp only [ByteArray.size_append, l32, l40, l41, l44, l440]; omega)
    have z6 : (sb ++ (⟨#[32]⟩ : ByteArray) ++ rb ++ (⟨#[44]⟩ : ByteArray) ++ bb ++ (⟨#[44, 40]⟩ : ByteArray) ++ ab).size + (⟨#[41]⟩ : ByteArray).size ≤ 400 := by (simp only [ByteArray.size_append, l32, l40, l41, l44, l440]; omega)
    have HH := Lib.hid h
    clear l32 l40 l41 l44 l440 zs zr za zb zn zu h
    obtain ⟨g1, g2⟩ := HH.out
    have q1 : (op == 1) = false := beq_eq_false_iff_ne.2 (by omega)
    have q2 : (op == 2) = false := beq_eq_false_iff_ne.2 (by omega)
    have q3 : (op == 3) = false := beq_eq_false_iff_ne.2 (by omega)
    have q4 : (op == 4) = false := beq_eq_false_iff_ne.2 (by omega)
    have q46 : (op == 46) = false := beq_eq_false_iff_ne.2 (by omega)
    have q57 : (op == 57) = false := beq_eq_false_iff_ne.2 (by omega)
    go_wp2_with fail
    go_ret
    exact ⟨by rw [HX.out]; rfl, HV4.out⟩
  · skip
    have HX := Lib.hid (HX_no.out h)
    have HH := Lib.hid h
    clear l32 l40 l41 l44 l440 zs zr za zb zn zu h
    rcases HH.out with hh | hh
    · subst hh
      go_wp2_with fail
      go_ret
      exact ⟨by rw [HX.out]; rfl, HV4.out⟩
    · subst hh
      go_wp2_with fail
      go_ret
      exact ⟨by rw [HX.out]; rfl, HV4.out⟩
end Go.Proofs.YtlfnddmncbkjaacDoor.W
