/- The blank's cut, and what parts numbers: walked. -/
import Derived.Test.YtlfnddmncbkjaacDoorZMB
import Derived.Test.YtlfnddmncbkjaacDoorZTShelfR
import Derived.Laws.Runes
import Derived.Deep.LoopGhost
import Derived.BigQuiet
import Derived.WalkMore
import Derived.Lib.SmallJoins
namespace Go.Proofs.YtlfnddmncbkjaacDoor.W
set_option linter.unusedVariables false
set_option linter.unusedSimpArgs false
open Go.RowKit Fb
theorem bsX_nil : bs [] = ⟨#[]⟩ := rfl
set_option maxHeartbeats 1600000 in
set_option maxRecDepth 100000 in
theorem cutw_any (l : List UInt8) (hl : l.length ≤ 4611686018427387904) (w : World) :
    Calls Tryd.prog 27 #[.string (bs l), .string ⟨#[32]⟩] w fun e w' => ∃ b, e = .returned (.tuple #[.string (bs (headL l)), .string (bs (restL l)), .bool b]) ∧ Below w.heap.size w w' := by
  have HI := Lib.hid (fun W => Any.stringslite_Index_one { Tryd.lays145 with } (bs l) 32 W)
  rw [show (bs l).data.toList = l by simp [bs]] at HI
  rcases indexByte_cases l with ⟨h1, h2, h3⟩ | ⟨i, h1, h2, h3, h4⟩
  · rw [h1] at HI
    rw [h2, h3]
    clear h1 h2 h3
    go_enter Tryd.func27, Tryd.ntmps27
    go_wp2_with fail
    refine (HI.out _).mono ?_
    rintro e w2 ⟨rfl, rfl⟩
    go_wp2_with fail
    go_ret3
    exact ⟨false, rfl, Below.refl _ _⟩
  · rw [h1] at HI
    rw [h3, h4]
    have hz : (bs l).size = l.length := bs_size l
    have c1 : (0 : Int) ≤ ↑i := by omega
    have c2 : (↑i : Int) ≤ ↑(bs l).size := by omega
    have c3 : (0 : Int) ≤ ↑i + 1 := by omega
    have c4 : (↑i + 1 : Int) ≤ ↑(bs l).size := by omega
    have c5 : IntKind.i64.wrap ((i : Int) + 1) = (i : Int) + 1 := by simp (disch := omega) only [IntWalk.i64_in]
    have c6 : ((i : Int) + 1).toNat = i + 1 := by omega
    have mixed : Tryd.prog.follows Departure.mixedOrders = true := by kernel_rfl
    have e1 : (bs l).extract 0 i = bs (l.take i) := by rw [bs_extract]; simp
    have e2 : (bs l).extract (i + 1) (bs l).size = bs (l.drop (i + 1)) := by
      rw [bs_extract, hz, List.take_of_length_le (by simp)]
    rw [← e1, ← e2]
    clear h1 h2 h3 h4 e1 e2 hz
    go_enter Tryd.func27, Tryd.ntmps27
    go_wp2_with fail
    refine (HI.out _).mono ?_
    rintro e w2 ⟨rfl, rfl⟩
    go_wp2_with fail
    go_region_o
    go_wp2
    go_ret3
    exact ⟨true, by simp, (Below.refl _ _).drew⟩
set_option maxRecDepth 100000 in
theorem cut_any (l : List UInt8) (hl : l.length ≤ 4611686018427387904) (w : World) :
    Calls Tryd.prog 18 #[.string (bs l), .string ⟨#[32]⟩] w fun e w' => ∃ b, e = .returned (.tuple #[.string (bs (headL l)), .string (bs (restL l)), .bool b]) ∧ Below w.heap.size w w' := by
  have HI := Lib.hid (cutw_any l hl w)
  go_enter Tryd.func18, Tryd.ntmps18
  go_wp2_with fail
  refine HI.out.mono ?_
  rintro e w2 ⟨b, rfl, hb⟩
  go_wp2_with fail
  go_ret3
  exact ⟨b, rfl, hb⟩
def sepB : ByteArray := ⟨#[120, 44, 40, 41, 32]⟩
set_option maxRecDepth 100000 in
set_option maxHeartbeats 1600000 in
theorem irune_err (w : World) :
    Calls Tryd.prog 58 #[.string ⟨#[120, 44, 40, 41, 32]⟩, .int .i32 65533] w fun e w' => e = .returned (.int .i64 (-1)) ∧ Below w.heap.size w w' := by
  go_enter Tryd.func58, Tryd.ntmps58
  go_wp2_with fail
  go_loopg [] 5 (fun gf wx => ∃ pos : Nat, wx.heap[w.heap.size]? = some (.stringIter sepB pos) ∧ Below w.heap.size w wx ∧ pos + gf = 5)
  case atStart => exact ⟨0, World.iter_heap w sepB 0, (Below.refl _ w).alloc (Nat.le_refl _) _, by omega⟩
  case round =>
    obtain ⟨pos, hit, hbw, hfu⟩ := hrel
    by_cases hps : pos < 5
    · obtain ⟨g', rfl⟩ : ∃ g', gk = g' + 1 := ⟨gk - 1, by omega⟩
      have hnx : ∀ ty, (Instr.next (.pointer (some ⟨w.heap.size, 0, none⟩)) true ty).run Tryd.prog wr = _ := fun ty => Lib.run_next_any_at wr w.heap.size sepB pos ty hit hps
      have hd : (Utf8.decode sepB pos).2 = 1 ∧ (Utf8.decode sepB pos).1 ≤ 127 := by
        rcases (by omega : pos = 0 ∨ pos = 1 ∨ pos = 2 ∨ pos = 3 ∨ pos = 4) with h | h | h | h | h <;> subst h <;> decide +kernel
      obtain ⟨R, hR⟩ : ∃ R, (Utf8.decode sepB pos).1 = R := ⟨_, rfl⟩
      rw [hR, hd.1] at hnx
      rw [hR] at hd
      have hne : ¬ ((R : Int) = 65533) := by omega
      have hit2 := Lib.iterAt_heap wr w.heap.size sepB pos (pos + 1) hit
      have hbw2 := Lib.below_iterAt hbw (k := w.heap.size) (Nat.le_refl _) sepB (pos + 1)
      obtain ⟨W, hWd⟩ : ∃ W, wr.iterAt w.heap.size sepB (pos + 1) = W := ⟨_, rfl⟩
      rw [hWd] at hnx hit2 hbw2
      go_wp2_with fail
      go_roundg g'
      case measure => omega
      case rel => exact ⟨pos + 1, hit2, hbw2, by omega⟩
    · have hnx : ∀ ty, (Instr.next (.pointer (some ⟨w.heap.size, 0, none⟩)) true ty).run Tryd.prog wr = _ := fun ty => Lib.run_next_end_at wr w.heap.size sepB pos ty hit hps
      go_wp2_with fail
      go_ret
      exact ⟨rfl, hbw⟩
end Go.Proofs.YtlfnddmncbkjaacDoor.W

/- What parts numbers, walked at every rune. -/
namespace Go.Proofs.YtlfnddmncbkjaacDoor.W
set_option linter.unusedVariables false
set_option linter.unusedSimpArgs false
open Go.RowKit Fb
set_option maxRecDepth 100000 in
set_option maxHeartbeats 1600000 in
theorem valid_any (x : Int) (h0 : 0 ≤ x) (h1 : x ≤ 1114111) (w : World) :
    Calls Tryd.prog 69 #[.int .i32 x] w fun e w' => e = .returned (.bool (decide (x < 55296 ∨ 57343 < x))) ∧ w' = w := by
  rcases (by omega : x < 55296 ∨ 57343 < x ∨ (55296 ≤ x ∧ x ≤ 57343)) with h | h | h
  · rw [decide_eq_true (by omega)]
    go_enter Tryd.func69, Tryd.ntmps69
    go_wp2_with fail
    go_ret
    exact ⟨rfl, rfl⟩
  · rw [decide_eq_true (by omega)]
    have h' : ¬ x < 55296 := by omega
    go_enter Tryd.func69, Tryd.ntmps69
    go_wp2_with fail
    go_ret
    exact ⟨rfl, rfl⟩
  · rw [decide_eq_false (by omega)]
    have h' : ¬ x < 55296 := by omega
    have h'' : ¬ 57343 < x := by omega
    go_enter Tryd.func69, Tryd.ntmps69
    go_wp2_with fail
    go_ret
    exact ⟨rfl, rfl⟩
set_option maxRecDepth 100000 in
set_option maxHeartbeats 1600000 in
theorem irune_bad (x : Int) (h0 : 55296 ≤ x) (h1 : x ≤ 57343) (w : World) :
    Calls Tryd.prog 58 #[.string ⟨#[120, 44, 40, 41, 32]⟩, .int .i32 x] w fun e w' => e = .returned (.int .i64 (-1)) ∧ Below w.heap.size w w' := by
  have HV := Lib.hid (fun W => valid_any x (by omega) (by omega) W)
  rw [decide_eq_false (by omega)] at HV
  have h2 : ¬ x < 128 := by omega
  have h3 : ¬ x = 65533 := by omega
  go_enter Tryd.func58, Tryd.ntmps58
  go_wp2_with fail
  refine (HV.out _).mono ?_
  rintro e w2 ⟨rfl, rfl⟩
  go_wp2_with fail
  go_ret
  exact ⟨rfl, Below.refl _ _⟩
theorem miss_hi (c : UInt8) (h : 128 ≤ c.toNat) : ∀ l : List UInt8, (∀ b ∈ l, b.toNat < 128) → Lib.indexByte l c = -1 := by
  intro l
  induction l with
  | nil => intro _; rfl
  | cons b l ih =>
    intro hl
    have hb : ¬ b = c := by
      intro e
      have := hl b (List.mem_cons_self ..)
      rw [e] at this
      omega
    simp [Lib.indexByte, hb, ih (fun y hy => hl y (List.mem_cons_of_mem _ hy))]
theorem miss_any (c : UInt8) (h : 128 ≤ c.toNat) (a b : Nat) (W : World) :
    Calls Tryd.prog 68 #[.string ((⟨#[120, 44, 40, 41, 32]⟩ : ByteArray).extract a b), .int .u8 (c.toNat : Int)] W fun e w' => e = .returned (.int .i64 (-1)) ∧ w' = W := by
  have := Tryd.strings_IndexByte ((⟨#[120, 44, 40, 41, 32]⟩ : ByteArray).extract a b) (c.toNat : Int) W
  rw [show ((c.toNat : Int).toNat.toUInt8) = c by simp, miss_hi c h _ (fun y hy => (by decide : ∀ z ∈ sepL, z.toNat < 128) y (mem_extract hy))] at this
  exact this
set_option maxRecDepth 100000 in
set_option maxHeartbeats 3200000 in
theorem irune_good (x : Int) (h0 : 128 ≤ x) (h1 : x ≤ 1114111) (hv : x < 55296 ∨ 57343 < x) (hne : ¬ x = 65533) (w : World) :
    Calls Tryd.prog 58 #[.string ⟨#[120, 44, 40, 41, 32]⟩, .int .i32 x] w fun e w' => e = .returned (.int .i64 (-1)) ∧ Below w.heap.size w w' := by
  have HV := Lib.hid (fun W => valid_any x (by omega) (by omega) W)
  rw [decide_eq_true hv] at HV
  have h2 : ¬ x < 128 := by omega
  have hvalid : Utf8.valid x = true := by rw [validRune_eq]; unfold validRune; rw [decide_eq_true]; omega
  obtain ⟨e1, e2, e3⟩ := encode_facts x hvalid h0
  obtain ⟨rs, hrs⟩ : ∃ rs, rs = Utf8.encode x := ⟨_, rfl⟩
  rw [← hrs] at e1 e2 e3
  obtain ⟨k, hk⟩ : ∃ k, rs.size = k + 1 := ⟨rs.size - 1, by omega⟩
  have hk1 : k = 1 ∨ k = 2 ∨ k = 3 := by omega
  have hkl : k < rs.size := by omega
  obtain ⟨c, hc⟩ : ∃ c, rs[k] = c := ⟨_, rfl⟩
  have hc128 : 128 ≤ c.toNat := by rw [← hc]; have := e3 (by omega); simpa [hk] using this
  have hcv : ∀ W, (convert 21 9 (.int .i32 x)).run Tryd.prog W = .ok (.string rs) W := fun W => by rw [hrs]; exact run_convert_int_string W 21 9 .i32 x (by kernel_rfl) Tryd.underlying9
  have HM := Lib.hid (fun a b W => miss_any c hc128 a b W)
  have hbn : ∀ b : UInt8, b.toNat < 128 → ((b.toNat : Int) != (c.toNat : Int)) = true := by intro b hb; simp; omega
  have mixed : Tryd.prog.follows Departure.mixedOrders = true := by kernel_rfl
  have hsz : rs.size = k + 1 := by omega
  have hw1 : wrap64 (((k + 1 : Nat) : Int) - 1) = (k : Int) := by
    rw [show (((k + 1 : Nat) : Int) - 1) = (k : Int) by omega]
    unfold wrap64; omega
  clear e1 e2 e3
  subst hrs
  have hq : (k : Int) < ((Utf8.encode x).size : Int) := by omega
  rcases hk1 with rfl | rfl | rfl
  · go_enter Tryd.func58, Tryd.ntmps58
    go_wp2_with fail
    refine (HV.out _).mono ?_
    rintro e w2 ⟨rfl, rfl⟩
    go_wp2_with fail
    go_step3
    go_wp2_with fail
    try simp only [hsz, hw1]
    go_loopg [9] 1 (fun _ s9 wx => s9 = .int .i64 1 ∧ wx = w2)
    case atStart => exact ⟨rfl, rfl⟩
    case round =>
      obtain ⟨rfl, rfl⟩ := hrel
      go_wp2_with fail
      go_step3
      go_wp2_with fail
      go_quiet (fail)
      rw [hbn _ (by decide)]
      have hS : ((⟨#[120, 44, 40, 41, 32]⟩ : ByteArray).size) = 5 := rfl
      have hwa : IntKind.i64.wrap (1 + 1) = 2 := by decide
      have hwb : IntKind.i64.wrap 2 = 2 := by decide
      go_wp2_with fail
      go_quiet ((go_at_call 68; refine (HM.out _ _ _).mono ?_; rintro e w' ⟨rfl, rfl⟩; exact ⟨rfl, _, rfl⟩))
      go_wp2_with fail
      first | (rw [Exit.noGoto_ret]; go_ret) | (simp only [Exit.noGoto_ret, Exit.inBlock, Exit.then]; go_ret)
      exact ⟨rfl, below_drewNg _ _⟩
  · go_enter Tryd.func58, Tryd.ntmps58
    go_wp2_with fail
    refine (HV.out _).mono ?_
    rintro e w2 ⟨rfl, rfl⟩
    go_wp2_with fail
    go_step3
    go_wp2_with fail
    try simp only [hsz, hw1]
    go_loopg [9] 1 (fun _ s9 wx => s9 = .int .i64 2 ∧ wx = w2)
    case atStart => exact ⟨rfl, rfl⟩
    case round =>
      obtain ⟨rfl, rfl⟩ := hrel
      go_wp2_with fail
      go_step3
      go_wp2_with fail
      go_quiet (fail)
      rw [hbn _ (by decide)]
      have hS : ((⟨#[120, 44, 40, 41, 32]⟩ : ByteArray).size) = 5 := rfl
      have hwa : IntKind.i64.wrap (2 + 1) = 3 := by decide
      have hwb : IntKind.i64.wrap 3 = 3 := by decide
      go_wp2_with fail
      go_quiet ((go_at_call 68; refine (HM.out _ _ _).mono ?_; rintro e w' ⟨rfl, rfl⟩; exact ⟨rfl, _, rfl⟩))
      go_wp2_with fail
      first | (rw [Exit.noGoto_ret]; go_ret) | (simp only [Exit.noGoto_ret, Exit.inBlock, Exit.then]; go_ret)
      exact ⟨rfl, below_drewNg _ _⟩
  · go_enter Tryd.func58, Tryd.ntmps58
    go_wp2_with fail
    refine (HV.out _).mono ?_
    rintro e w2 ⟨rfl, rfl⟩
    go_wp2_with fail
    go_step3
    go_wp2_with fail
    try simp only [hsz, hw1]
    go_loopg [9] 1 (fun _ s9 wx => s9 = .int .i64 3 ∧ wx = w2)
    case atStart => exact ⟨rfl, rfl⟩
    case round =>
      obtain ⟨rfl, rfl⟩ := hrel
      go_wp2_with fail
      go_step3
      go_wp2_with fail
      go_quiet (fail)
      rw [hbn _ (by decide)]
      have hS : ((⟨#[120, 44, 40, 41, 32]⟩ : ByteArray).size) = 5 := rfl
      have hwa : IntKind.i64.wrap (3 + 1) = 4 := by decide
      have hwb : IntKind.i64.wrap 4 = 4 := by decide
      go_wp2_with fail
      go_quiet ((go_at_call 68; refine (HM.out _ _ _).mono ?_; rintro e w' ⟨rfl, rfl⟩; exact ⟨rfl, _, rfl⟩))
      go_wp2_with fail
      first | (rw [Exit.noGoto_ret]; go_ret) | (simp only [Exit.noGoto_ret, Exit.inBlock, Exit.then]; go_ret)
      exact ⟨rfl, below_drewNg _ _⟩
theorem irune_hi (x : Nat) (h0 : 128 ≤ x) (h1 : x ≤ 1114111) (w : World) :
    Calls Tryd.prog 58 #[.string ⟨#[120, 44, 40, 41, 32]⟩, .int .i32 x] w fun e w' => e = .returned (.int .i64 (-1)) ∧ Below w.heap.size w w' := by
  by_cases h : (x : Int) = 65533
  · rw [h]; exact irune_err w
  · by_cases h2 : 55296 ≤ (x : Int) ∧ (x : Int) ≤ 57343
    · exact irune_bad x h2.1 h2.2 w
    · exact irune_good x (by omega) (by omega) (by omega) h w
end Go.Proofs.YtlfnddmncbkjaacDoor.W

/- What parts numbers, walked at every rune: the predicate. -/
namespace Go.Proofs.YtlfnddmncbkjaacDoor.W
set_option linter.unusedVariables false
set_option linter.unusedSimpArgs false
open Go.RowKit Fb
theorem sep_ascii : ∀ x : Nat, x < 128 → decide (0 ≤ Lib.indexByte [120, 44, 40, 41, 32] ((x : Int).toNat.toUInt8)) = isSepN x := by decide +kernel
set_option maxRecDepth 100000 in
theorem crune_any (x : Nat) (h1 : x ≤ 1114111) (w : World) :
    Calls Tryd.prog 47 #[.string ⟨#[120, 44, 40, 41, 32]⟩, .int .i32 x] w fun e w' => e = .returned (.bool (isSepN x)) ∧ Below w.heap.size w w' := by
  by_cases h : x < 128
  · refine (Tryd.strings_ContainsRune_ascii ⟨#[120, 44, 40, 41, 32]⟩ x w (by omega) (by omega)).mono ?_
    rintro e w' ⟨rfl, rfl⟩
    exact ⟨by rw [← sep_ascii x h], Below.refl _ _⟩
  · have HI := Lib.hid (irune_hi x (by omega) (by omega) w)
    have e : isSepN x = false := by unfold isSepN; simp; omega
    rw [e]
    clear e
    go_enter Tryd.func47, Tryd.ntmps47
    go_wp2_with fail
    refine HI.out.mono ?_
    rintro e w2 ⟨rfl, hb⟩
    go_wp2_with fail
    go_ret
    exact ⟨rfl, hb⟩
set_option maxRecDepth 100000 in
theorem pred_any (x : Nat) (h1 : x ≤ 1114111) (w : World) :
    Calls Tryd.prog 46 #[.int .i32 x] w fun e w' => e = .returned (.bool (isSepN x)) ∧ Below w.heap.size w w' := by
  have HI := Lib.hid (crune_any x h1 w)
  go_enter Tryd.func46, Tryd.ntmps46
  go_wp2_with fail
  refine HI.out.mono ?_
  rintro e w2 ⟨rfl, hb⟩
  go_wp2_with fail
  go_ret
  exact ⟨rfl, hb⟩
theorem fields_any (s : ByteArray) (hs : s.size ≤ 4294967296) (w : World) :
    Calls Tryd.prog 44 #[.string s, .func (.func 46) #[] #[]] w fun e w' => ∃ A, e = .returned (.slice (some ⟨A, 0, none⟩) (Lib.goFieldsP isSepN s).length (Lib.goFieldsP isSepN s).length) ∧ w.heap.size ≤ A ∧
      w'.ownsRow w.heap.size 9 1 (.slice (some ⟨A, 0, none⟩) (Lib.goFieldsP isSepN s).length (Lib.goFieldsP isSepN s).length) (Lib.goFieldsP isSepN s).length ((Lib.goFieldsP isSepN s).map Value.string) ∧ Below w.heap.size w w' :=
  Tryd.strings_FieldsFunc_grows 46 #[] (enters_of Tryd.func46 (by kernel_rfl) rfl) isSepN s w hs (fun W x hx _ => pred_any x hx W)
end Go.Proofs.YtlfnddmncbkjaacDoor.W

/- The numbers in a text, walked. -/
namespace Go.Proofs.YtlfnddmncbkjaacDoor.Fb
set_option linter.unusedVariables false
set_option linter.unusedSimpArgs false
/-- a word as a number of 32 bits -/
def p32 (b : ByteArray) : Option Int := match Lib.parseIntB 32 b.data.toList with | .ok v => some v | _ => none
/-- the words of a text; its numbers, if all its words are such -/
def wordsF (l : List UInt8) : List ByteArray := Lib.goFieldsP isSepN (bs l)
def numsF (l : List UInt8) : List Int := ((wordsF l).mapM p32).getD []
end Go.Proofs.YtlfnddmncbkjaacDoor.Fb
namespace Go.Proofs.YtlfnddmncbkjaacDoor.W
set_option linter.unusedVariables false
set_option linter.unusedSimpArgs false
open Go.RowKit Fb
/-- an error's variable: what it holds, now and later -/
def ErrAt (B : Nat) (w : World) (n : String) : Prop := ∃ tp p, ∀ W, Below B w W → W.var? Tryd.prog n = some #[.iface tp p]
theorem ErrAt.on {B : Nat} {w w1 : World} {n : String} (h : ErrAt B w n) (hb : Below B w w1) (hB : B ≤ w1.heap.size) : ErrAt w1.heap.size w1 n := by
  obtain ⟨tp, p, h⟩ := h
  exact ⟨tp, p, fun W hW => h W (hb.trans (hW.mono hB))⟩
theorem parse32_any (b : ByteArray) (hb : b.size ≤ 281474976710656) (w : World) (hS : ErrAt w.heap.size w "strconv.ErrSyntax") (hR : ErrAt w.heap.size w "strconv.ErrRange") :
    Calls Tryd.prog 48 #[.string b, .int .i64 10, .int .i64 32] w fun e w' => (∃ (n : Int) (v : Value), e = .returned (.tuple #[.int .i64 n, v]) ∧ ((p32 b = some n ∧ v = .nilIface) ∨ (p32 b = none ∧ ∃ t x, v = .iface t x))) ∧ Below w.heap.size w w' := by
  obtain ⟨tp, p, hS⟩ := hS
  obtain ⟨tq, q, hR⟩ := hR
  cases h : Lib.parseIntB 32 b.data.toList with
  | ok v =>
    refine (Tryd.strconv_ParseInt_10_at32_ok b (by omega) v h w).mono ?_
    rintro e w' ⟨rfl, h2⟩
    refine ⟨⟨v, _, rfl, Or.inl ⟨by unfold p32; rw [h], rfl⟩⟩, ?_⟩
    rcases h2 with rfl | ⟨t, rfl⟩
    · exact Below.refl _ _
    · exact Lib.bytesWorld_below _ _ _
  | «syntax» =>
    refine (Tryd.strconv_ParseInt_10_at32_syntax_var b hb h tp p w (hS w (Below.refl _ _))).mono ?_
    rintro e w' ⟨N, rfl, _, _, h4⟩
    exact ⟨⟨0, _, rfl, Or.inr ⟨by unfold p32; rw [h], _, _, rfl⟩⟩, h4⟩
  | range =>
    refine (Tryd.strconv_ParseInt_10_at32_range_var b hb h tq q w (hR w (Below.refl _ _))).mono ?_
    rintro e w' ⟨N, rfl, _, _, h4⟩
    exact ⟨⟨_, _, rfl, Or.inr ⟨by unfold p32; rw [h], _, _, rfl⟩⟩, h4⟩
theorem own_mono {w : World} {B B' e size n : Nat} {v : Value} {xs : List Value} (h : w.ownsRow B e size v n xs) (hb : B' ≤ B) : w.ownsRow B' e size v n xs :=
  ⟨h.1, h.2.imp id (fun ⟨g, cap, cur, a, b, r⟩ => ⟨g, cap, cur, a, Nat.le_trans hb b, r⟩)⟩
theorem cell_one_new' (w : World) (x : Value) (t : TypeId) : ∀ j u, [x][j]? = some u → (w.alloc (.cells #[x] t)).cell? ((⟨w.heap.size, 0, none⟩ : Addr).add j) = some u := by
  intro j u hj
  match j, hj with
  | 0, hj => simp at hj; subst hj; simp [Addr.add]
  | (j + 1), hj => simp at hj
theorem words_size (l : List UInt8) : ∀ b ∈ wordsF l, b.size ≤ l.length := by
  intro b hb
  unfold wordsF Lib.goFieldsP at hb
  obtain ⟨x, _, rfl⟩ := List.mem_map.1 hb
  rw [bs_extract, bs_size, List.length_take, List.length_drop]
  omega
set_option maxRecDepth 100000 in
set_option maxHeartbeats 1600000 in
theorem numbers_any (l : List UInt8) (hl : l.length ≤ 4294967296) (hn : (wordsF l).length ≤ 4294967296) (w : World) (HS : Hid (ErrAt w.heap.size w "strconv.ErrSyntax")) (HR : Hid (ErrAt w.heap.size w "strconv.ErrRange")) :
    Calls Tryd.prog 29 #[.string (bs l)] w fun e w' => ∃ v, e = .returned v ∧ w'.ownsRow w.heap.size 2 1 v (numsF l).length ((numsF l).map (.int .i64 ·)) ∧ Below w.heap.size w w' := by
  have HF := Lib.hid (fun W => fields_any (bs l) (by rw [bs_size]; exact hl) W)
  have HW : Hid (∀ b ∈ wordsF l, b.size ≤ 281474976710656) := Lib.hid (fun b hb => by have := words_size l b hb; omega)
  have HN : Hid (numsF l = ((wordsF l).mapM p32).getD []) := Lib.hid rfl
  obtain ⟨zs, hzs⟩ : ∃ zs, zs = numsF l := ⟨_, rfl⟩
  rw [← hzs] at HN ⊢
  have hWF : Lib.goFieldsP isSepN (bs l) = wordsF l := rfl
  rw [hWF] at HF
  generalize wordsF l = F at *
  obtain ⟨i0, hi, hz0, hz1, hz2⟩ := info_parts (show (Tryd.prog.info? 2).map (fun i => (i.zero, i.size, i.bytes)) = some (some (.int .i64 0), 1, 8) by kernel_rfl)
  clear hWF hzs hl
  go_enter Tryd.func29, Tryd.ntmps29
  go_wp2_with fail
  refine (HF.out _).mono ?_
  rintro e w1 ⟨A, rfl, hA, hownF, hb1⟩
  go_wp2_with fail
  go_loopg [3, 11] F.length (fun gf s3 s11 wx => ∃ (i : Nat) (acc : List Int), i + gf = F.length ∧ s11 = .int .i64 i ∧ acc.length = i ∧ Hid (F.mapM p32 = ((F.drop i).mapM p32).map (acc ++ ·)) ∧
    wx.ownsRow w1.heap.size 2 1 s3 acc.length (acc.map (.int .i64 ·)) ∧ Below w1.heap.size w1 wx)
  case atStart =>
    refine ⟨0, [], by omega, rfl, rfl, Lib.hid (by simp), ⟨by simp, Or.inl ⟨rfl, rfl⟩⟩, Below.refl _ _⟩
  case round =>
    obtain ⟨i, acc, hig, rfl, hai, HM, hown, hbw⟩ := hrel
    have hF := own_below hownF hbw
    have hbz := hb1.trans (hbw.mono hb1.size)
    by_cases hlt : i < F.length
    · obtain ⟨g', rfl⟩ : ∃ g', gk = g' + 1 := ⟨gk - 1, by omega⟩
      obtain ⟨b, hb⟩ : ∃ b, F[i]? = some b := ⟨F[i], List.getElem?_eq_getElem hlt⟩
      have hd : F.drop i = b :: F.drop (i + 1) := by
        rw [List.getElem?_eq_getElem hlt] at hb
        rw [← Option.some.inj hb]
        exact List.drop_eq_getElem_cons hlt
      have HM2 := Lib.hid (show F.mapM p32 = (p32 b).bind (fun y => ((F.drop (i + 1)).mapM p32).map (fun ys => acc ++ y :: ys)) by
        rw [HM.out, hd, List.mapM_cons]
        cases p32 b with
        | none => rfl
        | some y => cases (F.drop (i + 1)).mapM p32 <;> rfl)
      have hcell : wr.cell? ⟨A, i, none⟩ = some (.string b) := by
        rw [hF.cellAt i (by omega), List.getElem?_map, hb]; rfl
      have HP := Lib.hid (parse32_any b (HW.out b (List.mem_of_getElem? hb)) wr (HS.out.on hbz hbz.size) (HR.out.on hbz hbz.size))
      have HO := Lib.hid hown
      have HBW := Lib.hid hbw
      clear HM hd hb hown hF hbw hbz
      go_wp2_with fail
      refine HP.out.mono ?_
      rintro e W ⟨⟨n, v, rfl, ⟨hp, rfl⟩ | ⟨hp, tt, xx, rfl⟩⟩, hbc⟩
      · have HM3 := Lib.hid (show F.mapM p32 = ((F.drop (i + 1)).mapM p32).map ((acc ++ [n]) ++ ·) by
          rw [HM2.out, hp]
          simp)
        clear HM2 hp HP
        have HX := Lib.hid (own_below HO.out hbc)
        have HBC := Lib.hid (HBW.out.trans (hbc.mono HBW.out.size))
        clear hbc
        go_wp2_with (at_builtin; go_must (refine wpList_append_own _ rfl (.tmp 22) (.tmp 24) 57 rfl w1.heap.size 2 i0 (.int .i64 0) 1 8 Tryd.underlying57 hi hz0 hz1 hz2 rfl (by decide) _ _ _ rfl (HX.out.alloc _) ⟨W.heap.size, 0, none⟩ 1 1 [.int .i64 n] rfl rfl (cell_one_new' _ _ _) (by intro u hu; simp at hu; subst hu; rfl) (by unfold maxLen; omega) (by omega) (by have := HBC.out.size; simp; omega) ?_; intro v3 w3 hown3 hgrow3 hnil3))
        go_roundg g'
        case measure => omega
        case rel =>
          have hz := HBC.out.size
          refine ⟨i + 1, acc ++ [n], by omega, by go_num, by simp; omega, HM3, by rw [List.length_append, List.map_append]; exact hown3, ?_⟩
          exact (HBC.out.alloc hz _).grown hgrow3 (by simp; omega) (fun j hj => ((HX.out.alloc (.cells #[.int .i64 n] 2)).lt j hj).1)
      · have hz : zs = [] := by rw [HN.out, HM2.out, hp]; rfl
        subst hz
        have HBC := Lib.hid (hb1.trans ((HBW.out.trans (hbc.mono HBW.out.size)).mono hb1.size))
        clear HM2 HN hp HP hbc
        go_wp2_with fail
        go_ret
        exact ⟨_, rfl, ⟨by simp, Or.inl ⟨rfl, rfl⟩⟩, HBC.out⟩
    · have hd : F.drop i = [] := List.drop_eq_nil_of_le (by omega)
      have hz : zs = acc := by
        rw [HN.out, HM.out, hd]
        simp
      subst hz
      have HO := Lib.hid (own_mono hown hb1.size)
      have HBC := Lib.hid hbz
      clear HM HN hd hown hbw hF hbz
      go_wp2_with fail
      go_ret
      exact ⟨_, rfl, HO.out, HBC.out⟩
end Go.Proofs.YtlfnddmncbkjaacDoor.W
