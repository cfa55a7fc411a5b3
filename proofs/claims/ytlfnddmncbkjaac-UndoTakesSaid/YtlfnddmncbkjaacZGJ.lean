import Derived.Test.YtlfnddmncbkjaacZGI
import Derived.Test.YtlfnddmncbkjaacZMA
import Derived.Test.YtlfnddmncbkjaacZGE
import Derived.Test.YtlfnddmncbkjaacZGG
import Derived.Test.YtlfnddmncbkjaacZMB
import Derived.Test.YtlfnddmncbkjaacZGD
set_option linter.unusedVariables false
set_option linter.unusedSimpArgs false
set_option maxRecDepth 100000
set_option maxHeartbeats 4000000
namespace Go.Proofs.Ytlfnddmncbkjaac.W
open Go.RowKit Fb
theorem kind_bounds (op : Int) (h : 1 ≤ op ∧ op ≤ 59) : (0 ≤ (kindOf op).form ∧ (kindOf op).form ≤ 8) ∧ (0 ≤ (kindOf op).low ∧ (kindOf op).low < 128) ∧ (0 ≤ (kindOf op).mid ∧ (kindOf op).mid < 8) ∧ (0 ≤ (kindOf op).up ∧ (kindOf op).up < 128) := by
  have hk : ∀ k ∈ kinds, (0 ≤ k.form ∧ k.form ≤ 8) ∧ (0 ≤ k.low ∧ k.low < 128) ∧ (0 ≤ k.mid ∧ k.mid < 8) ∧ (0 ≤ k.up ∧ k.up < 128) := by decide
  have e : kindOf op = kinds.getD (op - 1).toNat ⟨0, 0, 0, 0⟩ := by unfold kindOf knownOp; rw [if_pos (by simpa using h)]
  have hl : (op - 1).toNat < kinds.length := by have : kinds.length = 59 := rfl; omega
  rw [e, List.getD, List.getElem?_eq_getElem hl]
  exact hk _ (List.getElem_mem hl)
theorem free_of_one' {w : World} {b : Nat} {cs : Array Value} {t : TypeId} (h : w.heap[b]? = some (.cells cs t (0, 0))) (o : Nat) : w.frozen? ⟨b, o, none⟩ = false := by
  simp [World.frozen?, h]
theorem cell_blk {w : World} {b o : Nat} {cs : Array Value} {t : TypeId} {v : Value} (h : w.heap[b]? = some (.cells cs t (0, 0))) (hv : cs[o]? = some v) : w.cell? ⟨b, o, none⟩ = some v := by
  simp [World.cell?, h, hv]
theorem read_keep (op f x : Int) (w0 W : World) (hx : U32 x) (hf : 0 ≤ f ∧ f ≤ 8) (hb : Below w0.heap.size w0 W) :
    Calls Try.prog 98 #[.int .i64 op, .int .i64 f, .int .u32 x] W fun e w' => e = .returned (.agg (icells (readS op f x))) ∧ Below w0.heap.size w0 w' :=
  (read_any op f x W hx hf).mono fun _ _ ⟨h1, h2⟩ => ⟨h1, hb.trans (h2.mono hb.size)⟩
theorem decode_any (x : Int) (w : World) (hx : U32 x) :
    Calls Try.prog 69 #[.int .u32 x] w fun e w' => e = .returned (.tuple #[.agg (icells ((dec x).getD i0)), .bool (dec x).isSome]) ∧ Below w.heap.size w w' := by
  have HX := lI hx
  obtain ⟨hx0, hx1⟩ := hx
  go_enter Try.func69, Try.ntmps69
  go_wp2_with fail
  have hb0 : Below w.heap.size w (w.alloc (.cells #[.int .i64 0, .int .i64 0, .int .i64 0, .int .i64 0, .int .i32 0] 110)) := by go_grown
  have hz0 : (w.alloc (.cells #[.int .i64 0, .int .i64 0, .int .i64 0, .int .i64 0, .int .i32 0] 110)).heap.size = w.heap.size + 1 := by simp
  have hblk : (w.alloc (.cells #[.int .i64 0, .int .i64 0, .int .i64 0, .int .i64 0, .int .i32 0] 110)).heap[w.heap.size]? = some (.cells #[.int .i64 0, .int .i64 0, .int .i64 0, .int .i64 0, .int .i32 0] 110 (0, 0)) := heap_alloc_new w _
  generalize w.alloc (.cells #[.int .i64 0, .int .i64 0, .int .i64 0, .int .i64 0, .int .i32 0] 110) = w1 at *
  go_loopw [4] (fun i wr => ∃ k : Nat, i = .int .i64 (k + 1 : Int) ∧ k ≤ 59 ∧ Hid (∀ j : Nat, j < k → matchB ((j : Int) + 1) x = false) ∧ ∃ w2, wr = w2 ∧ Below w1.heap.size w1 w2) (fun i _ => 60 - (intOf i).toNat)
  case atStart => exact ⟨0, rfl, om, lI (by intro j hj; omega), _, rfl, Below.refl _ _⟩
  case round =>
    obtain ⟨k, rfl, hk, HN, w2, hw2, hb⟩ := hrel
    subst hw2
    have hblk2 : wr.heap[w.heap.size]? = some (.cells #[.int .i64 0, .int .i64 0, .int .i64 0, .int .i64 0, .int .i32 0] 110 (0, 0)) := (hb.block w.heap.size om).trans hblk
    have hb1 := hb0.trans (hb.mono om)
    have hsz := hb.size
    have HBLK := lI hblk
    clear hblk
    by_cases hlt : k < 59
    · have HK := kind_bounds ((k : Int) + 1) om
      have hkn : knownOp ((k : Int) + 1) = true := by unfold knownOp; simp; omega
      have HMB : Hid (matchB ((k : Int) + 1) x = (tellsB (kindOf ((k : Int) + 1)) x && ((((k : Int) + 1) != 46) || (x / 1048576 % 32 == 0)))) := lI rfl
      have HD : Hid (matchB ((k : Int) + 1) x = true → dec x = some (readS ((k : Int) + 1) (kindOf ((k : Int) + 1)).form x)) := lI (fun h => by
        unfold dec; rw [decOp_at x k hlt h HN.out]; rfl)
      have HMB0 := HMB
      have HN2 : Hid (matchB ((k : Int) + 1) x = false → ∀ j : Nat, j < k + 1 → matchB ((j : Int) + 1) x = false) := lI (fun h j hj => if e : j = k then by subst e; exact h else HN.out j om)
      go_wp2_with fail
      refine (of_any _ _).mono ?_
      rintro e w3 ⟨rfl, hb3⟩
      have hblk3 := (hb3.block w.heap.size om).trans hblk2
      have hb4 := hb1.trans (hb3.mono om)
      have hb5 := hb.trans (hb3.mono om)
      have hsz3 := hb3.size
      rw [hkn]
      generalize kindOf ((k : Int) + 1) = kd at *
      obtain ⟨f, l, m, u⟩ := kd
      simp only [kcells] at HK HD HMB HMB0 ⊢
      obtain ⟨⟨f0, f1⟩, hl, hm, hu⟩ := HK
      have HL := lI hl
      have HM := lI hm
      have HU := lI hu
      generalize matchB ((k : Int) + 1) x = mb at *
      have hf3 : ∀ o, w3.frozen? ⟨w.heap.size, o, none⟩ = false := fun o => free_of_one' hblk3 o
      clear hkn HN hblk2 hl hm hu hb3 hb1
      go_wp2_with fail
      refine (tells_any f l m u x _ HX.out HL.out HM.out HU.out).mono ?_
      rintro e w4 ⟨rfl, hb6⟩
      have hz6 : w3.heap.size + 1 ≤ w4.heap.size := by have := hb6.size; simpa using this
      have hblk4 := (hb6.block w.heap.size zP).trans ((heap_alloc_old w3 _ om).trans hblk3)
      have hfm : w4.cell? ⟨w3.heap.size, 0, none⟩ = some (.int .i64 f) := (hb6.cell (p := ⟨w3.heap.size, 0, none⟩) zH).trans (by go_cell)
      have hb7 : Below w.heap.size w w4 := hb4.trans (Below.trans (Below.alloc br om _) (hb6.mono zP))
      have hb8 : Below w1.heap.size w1 w4 := hb5.trans (Below.trans (Below.alloc br om _) (hb6.mono zP))
      clear hb6 hb4 hb5 hblk3
      cases ht : tellsB ⟨f, l, m, u⟩ x with
      | false =>
        have hmf : mb = false := by rw [HMB.out, ht]; rfl
        have HN3 := lI (HN2.out hmf)
        clear ht hmf HMB HMB0 HD HN2
        go_wp2
        go_roundw
        case rel => exact ⟨k + 1, by go_num, om, HN3, _, rfl, hb8⟩
        case measure => simp [intOf]; omega
      | true =>
        have ho1 : w4.cell? ⟨w.heap.size, 0, none⟩ = some (.int .i64 0) := cell_blk hblk4 rfl
        have ho2 : w4.cell? ⟨w.heap.size, 1, none⟩ = some (.int .i64 0) := cell_blk hblk4 rfl
        have ho3 : w4.cell? ⟨w.heap.size, 2, none⟩ = some (.int .i64 0) := cell_blk hblk4 rfl
        have ho4 : w4.cell? ⟨w.heap.size, 3, none⟩ = some (.int .i64 0) := cell_blk hblk4 rfl
        have ho5 : w4.cell? ⟨w.heap.size, 4, none⟩ = some (.int .i32 0) := cell_blk hblk4 rfl
        have hfz := free_of_one' hblk4
        have HF := lI (And.intro f0 f1)
        have HREAD := fun (W : World) (hW : Below w4.heap.size w4 W) => read_keep ((k : Int) + 1) f x w4 W HX.out HF.out hW
        have HR := lI HREAD
        clear HREAD hblk4 HL HM HU HMB
        by_cases h46 : k = 45
        · subst h46
          by_cases hc : x / 1048576 % 32 = 0
          · have e1 : (((45 : Nat) : Int) + 1 == 46) = true := rfl
            have hc1 : (x / 1048576 % 32 == 0) = true := by simpa using hc
            have hmt : mb = true := by rw [HMB0.out, ht, hc1]; rfl
            have HDx := lI (HD.out hmt)
            clear hmt HMB0 HD HN2 ht hc
            go_wp2_with fail
            refine (cut_20_24 _ _ HX.out).mono ?_
            rintro e w' ⟨rfl, nd, rfl⟩
            go_wp2_with fail
            refine (HR.out _ (below_drewN br _)).mono ?_
            rintro e w5 ⟨rfl, hb9⟩
            generalize readS (((45 : Nat) : Int) + 1) f x = r at *
            obtain ⟨q1, q2, q3, q4, q5⟩ := r
            simp only [icells]
            have hlt4 : w.heap.size < w4.heap.size := om
            have go1 := (hb9.cell (p := ⟨w.heap.size, 0, none⟩) hlt4).trans ho1
            have go2 := (hb9.cell (p := ⟨w.heap.size, 1, none⟩) hlt4).trans ho2
            have go3 := (hb9.cell (p := ⟨w.heap.size, 2, none⟩) hlt4).trans ho3
            have go4 := (hb9.cell (p := ⟨w.heap.size, 3, none⟩) hlt4).trans ho4
            have go5 := (hb9.cell (p := ⟨w.heap.size, 4, none⟩) hlt4).trans ho5
            have gof := fun o => (hb9.frozen (p := ⟨w.heap.size, o, none⟩) hlt4).trans (hfz o)
            have hb10 := hb7.trans (hb9.mono om)
            clear ho1 ho2 ho3 ho4 ho5 hfz hb9 hfm
            go_wp2_with fail
            exact bodyPost_ret (v := .tuple #[.agg #[.int .i64 q1, .int .i64 q2, .int .i64 q3, .int .i64 q4, .int .i32 q5], .bool true]) (by simp [results, Try.results69, go_sem, go1, go2, go3, go4, go5]) rfl ⟨by rw [HDx.out]; rfl, hb10.trans Fb.blw⟩
          · have hc1 : (x / 1048576 % 32 == 0) = false := by simpa using hc
            have hmf : mb = false := by rw [HMB0.out, ht, hc1]; rfl
            have HN3 := lI (HN2.out hmf)
            clear hmf HMB0 HD HN2 ht hc
            go_wp2_with fail
            refine (cut_20_24 _ _ HX.out).mono ?_
            rintro e w' ⟨rfl, nd, rfl⟩
            go_wp2
            go_roundw
            case rel => exact ⟨45 + 1, by go_num, om, HN3, _, rfl, below_drewN hb8 _⟩
            case measure => simp [intOf]
        · have e1 : (((k : Int) + 1) == 46) = false := beq_eq_false_iff_ne.2 om
          have e2 : (((k : Int) + 1) != 46) = true := by simpa using (by omega : ((k : Int) + 1) ≠ 46)
          have hmt : mb = true := by rw [HMB0.out, ht, e2]; rfl
          have HDx := lI (HD.out hmt)
          clear hmt HMB0 HD HN2 ht e2
          go_wp2_with fail
          refine (HR.out _ br).mono ?_
          rintro e w5 ⟨rfl, hb9⟩
          generalize readS ((k : Int) + 1) f x = r at *
          obtain ⟨q1, q2, q3, q4, q5⟩ := r
          simp only [icells]
          have hlt4 : w.heap.size < w4.heap.size := om
          have go1 := (hb9.cell (p := ⟨w.heap.size, 0, none⟩) hlt4).trans ho1
          have go2 := (hb9.cell (p := ⟨w.heap.size, 1, none⟩) hlt4).trans ho2
          have go3 := (hb9.cell (p := ⟨w.heap.size, 2, none⟩) hlt4).trans ho3
          have go4 := (hb9.cell (p := ⟨w.heap.size, 3, none⟩) hlt4).trans ho4
          have go5 := (hb9.cell (p := ⟨w.heap.size, 4, none⟩) hlt4).trans ho5
          have gof := fun o => (hb9.frozen (p := ⟨w.heap.size, o, none⟩) hlt4).trans (hfz o)
          have hb10 := hb7.trans (hb9.mono om)
          clear ho1 ho2 ho3 ho4 ho5 hfz hb9 hfm
          go_wp2_with fail
          exact bodyPost_ret (v := .tuple #[.agg #[.int .i64 q1, .int .i64 q2, .int .i64 q3, .int .i64 q4, .int .i32 q5], .bool true]) (by simp [results, Try.results69, go_sem, go1, go2, go3, go4, go5]) rfl ⟨by rw [HDx.out]; rfl, hb10.trans Fb.blw⟩
    · obtain rfl : k = 59 := om
      have HDN : Hid (dec x = none) := lI (by unfold dec; rw [decOp_none x HN.out]; rfl)
      have ho1 : wr.cell? ⟨w.heap.size, 0, none⟩ = some (.int .i64 0) := cell_blk hblk2 rfl
      have ho2 : wr.cell? ⟨w.heap.size, 1, none⟩ = some (.int .i64 0) := cell_blk hblk2 rfl
      have ho3 : wr.cell? ⟨w.heap.size, 2, none⟩ = some (.int .i64 0) := cell_blk hblk2 rfl
      have ho4 : wr.cell? ⟨w.heap.size, 3, none⟩ = some (.int .i64 0) := cell_blk hblk2 rfl
      have ho5 : wr.cell? ⟨w.heap.size, 4, none⟩ = some (.int .i32 0) := cell_blk hblk2 rfl
      have hfz := free_of_one' hblk2
      clear hblk2 HN
      go_wp2
      exact bodyPost_ret (v := .tuple #[.agg #[.int .i64 0, .int .i64 0, .int .i64 0, .int .i64 0, .int .i32 0], .bool false]) (by simp [results, Try.results69, go_sem, ho1, ho2, ho3, ho4, ho5]) rfl ⟨by rw [HDN.out]; rfl, hb1.trans Fb.blw⟩
theorem fetch_any (v : Value) (l : List Int) (pc : Int) (w : World) (hv : Ints .u8 w v l) (hpc : U32 pc) (hb : ∀ i, 0 ≤ l.getD i 0 ∧ l.getD i 0 < 256) :
    Calls Try.prog 46 #[v, .int .u32 pc] w fun e w' => e = .returned (.tuple #[.agg (icells (fetchS l pc).1), .int .i64 (fetchS l pc).2]) ∧ Below w.heap.size w w' := by
  have HL := lI (fun W h => load_any v l 13 pc W h hpc hb)
  have HV := lI hv
  have HU : Hid (U32 (mLoad l 13 pc)) := lI (mLoad_u13 l pc hpc hb)
  have hF : fetchS l pc = if mLoadOk l 13 pc = true then (match dec (mLoad l 13 pc) with | some i => (i, (0 : Int)) | none => (i0, 2)) else (i0, 1) := rfl
  obtain ⟨fr, hfr⟩ : ∃ r, r = fetchS l pc := ⟨_, rfl⟩
  rw [← hfr] at hF ⊢
  have HF := lI hF
  clear hv hF hfr hpc
  go_enter Try.func46, Try.ntmps46
  go_wp2_with fail
  refine (HL.out _ (HV.out.below (Below.alloc br (Nat.le_refl _) _))).mono ?_
  rintro e w1 ⟨rfl, rfl⟩
  clear HL HV
  generalize mLoad l 13 pc = x at *
  cases ho : mLoadOk l 13 pc with
  | false =>
    rw [ho] at HF
    have HF2 : Hid (fr = (i0, 1)) := HF
    clear ho HF
    go_wp2_with fail
    exact bodyPost_ret (v := .tuple #[.agg #[.int .i64 0, .int .i64 0, .int .i64 0, .int .i64 0, .int .i32 0], .int .i64 1]) (by simp [results, Try.results46, go_sem]) rfl ⟨by rw [HF2.out]; rfl, Fb.blw⟩
  | true =>
    rw [ho] at HF
    have HF2 : Hid (fr = (match dec x with | some i => (i, (0 : Int)) | none => (i0, 2))) := HF
    clear ho HF
    go_wp2_with fail
    refine (decode_any x _ HU.out).mono ?_
    rintro e w2 ⟨rfl, hb2⟩
    have hblk := (hb2.block w.heap.size zH).trans (heap_alloc_new w (.cells #[.int .i64 0, .int .i64 0, .int .i64 0, .int .i64 0, .int .i32 0] 110))
    have hlt2 : w.heap.size < w2.heap.size := by have := hb2.size; simp at this; omega
    have hb3 : Below w.heap.size w w2 := Below.trans (Below.alloc br (Nat.le_refl _) _) (hb2.mono zH)
    have HFI : Hid (fr = ((dec x).getD i0, if (dec x).isSome = true then 0 else 2)) := lI (by rw [HF2.out]; cases dec x <;> rfl)
    have HFN : Hid ((dec x).isSome = false → fr = (i0, 2)) := lI (by intro h; rw [HF2.out]; cases hd : dec x with | none => rfl | some y => rw [hd] at h; cases h)
    clear HF2 hb2
    generalize (dec x).isSome = ok at *
    generalize (dec x).getD i0 = j at *
    obtain ⟨q1, q2, q3, q4, q5⟩ := j
    simp only [icells]
    obtain ⟨w3, hw3⟩ : ∃ w3, w3 = w2.alloc (.cells #[.int .i64 q1, .int .i64 q2, .int .i64 q3, .int .i64 q4, .int .i32 q5] 110) := ⟨_, rfl⟩
    have hblk3 : w3.heap[w.heap.size]? = some (.cells #[.int .i64 0, .int .i64 0, .int .i64 0, .int .i64 0, .int .i32 0] 110 (0, 0)) := by rw [hw3]; exact (heap_alloc_old w2 _ hlt2).trans hblk
    have k0 : w3.cell? ⟨w.heap.size, 0, none⟩ = some (.int .i64 0) := cell_blk hblk3 rfl
    have k1 : w3.cell? ⟨w.heap.size, 1, none⟩ = some (.int .i64 0) := cell_blk hblk3 rfl
    have k2 : w3.cell? ⟨w.heap.size, 2, none⟩ = some (.int .i64 0) := cell_blk hblk3 rfl
    have k3 : w3.cell? ⟨w.heap.size, 3, none⟩ = some (.int .i64 0) := cell_blk hblk3 rfl
    have k4 : w3.cell? ⟨w.heap.size, 4, none⟩ = some (.int .i32 0) := cell_blk hblk3 rfl
    have kf := free_of_one' hblk3
    have r0 : w3.cell? ⟨w2.heap.size, 0, none⟩ = some (.int .i64 q1) := by rw [hw3]; go_cell
    have r1 : w3.cell? ⟨w2.heap.size, 1, none⟩ = some (.int .i64 q2) := by rw [hw3]; go_cell
    have r2 : w3.cell? ⟨w2.heap.size, 2, none⟩ = some (.int .i64 q3) := by rw [hw3]; go_cell
    have r3 : w3.cell? ⟨w2.heap.size, 3, none⟩ = some (.int .i64 q4) := by rw [hw3]; go_cell
    have r4 : w3.cell? ⟨w2.heap.size, 4, none⟩ = some (.int .i32 q5) := by rw [hw3]; go_cell
    have hb4 : Below w.heap.size w w3 := by rw [hw3]; exact hb3.trans (Below.alloc br (Nat.le_of_lt hlt2) _)
    have HW3 := lI hw3
    clear hw3 hblk hblk3 hlt2 hb3
    go_upto_region 5 with (fail)
    rw [← HW3.out]
    cases ok with
    | true =>
      go_wp2_with fail
      exact bodyPost_ret (v := .tuple #[.agg #[.int .i64 q1, .int .i64 q2, .int .i64 q3, .int .i64 q4, .int .i32 q5], .int .i64 0]) (by simp [results, Try.results46, go_sem, k0, k1, k2, k3, k4]) rfl ⟨by rw [HFI.out]; rfl, hb4.trans Fb.blw⟩
    | false =>
      have HFJ : Hid (fr = (i0, 2)) := lI (HFN.out rfl)
      go_wp2_with fail
      exact bodyPost_ret (v := .tuple #[.agg #[.int .i64 0, .int .i64 0, .int .i64 0, .int .i64 0, .int .i32 0], .int .i64 2]) (by simp [results, Try.results46, go_sem, k0, k1, k2, k3, k4]) rfl ⟨by rw [HFJ.out]; rfl, hb4.trans Fb.blw⟩
end Go.Proofs.Ytlfnddmncbkjaac.W
namespace Go.Proofs.Ytlfnddmncbkjaac.Fb
theorem fetchS_ins (l : List Int) (pc : Int) (h : (fetchS l pc).2 = 0) : isS (fetchS l pc).1 = true ∧ I32 (fetchS l pc).1.imm := by
  unfold fetchS at h ⊢
  split
  · rename_i hok
    rw [if_pos hok] at h
    cases hd : dec (mLoad l 13 pc) with
    | none => rw [hd] at h; simp at h
    | some i => exact dec_is _ _ hd
  · rename_i hok
    rw [if_neg hok] at h
    simp at h
theorem isS_b {i : InsD} (h : isS i = true) : (1 ≤ i.op ∧ i.op ≤ 59) ∧ (0 ≤ i.rd ∧ i.rd ≤ 31) ∧ (0 ≤ i.rs1 ∧ i.rs1 ≤ 31) ∧ (0 ≤ i.rs2 ∧ i.rs2 ≤ 31) := by
  have h2 := isS_known h
  unfold knownOp regsOk at h2
  simp only [Bool.and_eq_true, decide_eq_true_eq] at h2
  omega
end Go.Proofs.Ytlfnddmncbkjaac.Fb
namespace Go.Proofs.Ytlfnddmncbkjaac.W
open Go.RowKit Fb
section
variable {cp hb ho : Nat} {vm : Value} {d : CoreD} {w : World}
theorem go_any (h : CoreAt cp hb ho vm 58 w d) (wf : d.Wf) (hlen : d.out.length < 1099511627776) :
    Calls Try.prog 28 #[.pointer (some ⟨cp, 0, none⟩)] w fun e w' => e = .returned (.tuple #[]) ∧ CoreAt cp hb ho vm 58 w' (goS d) ∧ Cgo cp hb ho vm 58 w w' := by
  have hne := h.hbl
  have hfr := h.fr
  have htw := h.tw
  have f3 := h.frz 3
  have f4 := h.frz 4
  have H1 : Hid (CoreAt cp hb ho vm 58 ((w.setCell ⟨cp, 3, none⟩ (.int .u32 0)).setCell ⟨cp, 4, none⟩ (.int .u32 0)) d.none) := lI ((h.setFr 0).setTo 0)
  have G1 : Hid (Cgo cp hb ho vm 58 w ((w.setCell ⟨cp, 3, none⟩ (.int .u32 0)).setCell ⟨cp, 4, none⟩ (.int .u32 0))) := lI ((Cgo.setCore w hne 3 _).trans (Cgo.setCore _ hne 4 _))
  have wf0 := wf.none
  have hgo : goS d = if (fetchS d.m d.h.pc).2 = 0 then doS (fetchS d.m d.h.pc).1 d.none else d.none.trap (fetchS d.m d.h.pc).2 := rfl
  rw [hgo]
  have HI := lI (fetchS_ins d.m d.h.pc)
  have HFE := lI (fun W hW => fetch_any vm d.m d.h.pc W hW wf.h.pc wf.m.getD)
  clear hgo h
  generalize (fetchS d.m d.h.pc).2 = code at *
  generalize (fetchS d.m d.h.pc).1 = ii at *
  obtain ⟨dd, hdd⟩ : ∃ x, x = (if code = 0 then doS ii d.none else d.none.trap code) := ⟨_, rfl⟩
  rw [← hdd]
  have HD := lI hdd
  clear hdd
  go_enter Try.func28, Try.ntmps28
  go_upto_region 1 with (fail)
  clear hfr htw f3 f4
  generalize (w.setCell ⟨cp, 3, none⟩ (.int .u32 0)).setCell ⟨cp, 4, none⟩ (.int .u32 0) = w1 at *
  have hp := H1.out.ptr
  have hm := H1.out.mem
  have hc32 : w1.cell? ⟨hb, ho + 32, none⟩ = some (.int .u32 d.h.pc) := H1.out.hart.get (hlist_pc wf.h)
  have l1 := H1.out.lt
  have l2 := H1.out.hlt
  obtain ⟨q1, q2, q3, q4, q5⟩ := ii
  simp only [icells] at HFE
  have KP : Hid (∀ w', Below w1.heap.size w1 w' → Below w1.heap.size w1 w' ∧ w'.cell? ⟨cp, 0, none⟩ = some (.pointer (some ⟨hb, ho, none⟩)) ∧ w'.cell? ⟨cp, 1, none⟩ = some vm ∧ w'.cell? ⟨hb, ho + 32, none⟩ = some (.int .u32 d.h.pc)) :=
    lI (fun w' h => ⟨h, (h.cell (p := ⟨cp, 0, none⟩) l1).trans hp, (h.cell (p := ⟨cp, 1, none⟩) l1).trans hm, (h.cell (p := ⟨hb, ho + 32, none⟩) l2).trans hc32⟩)
  go_region_held3 (fun w' => Below w1.heap.size w1 w' ∧ w'.cell? ⟨cp, 0, none⟩ = some (.pointer (some ⟨hb, ho, none⟩)) ∧ w'.cell? ⟨cp, 1, none⟩ = some vm ∧ w'.cell? ⟨hb, ho + 32, none⟩ = some (.int .u32 d.h.pc))
    ((refine KP.out _ ?_; (repeat (first | with_reducible exact Below.refl _ _ | with_reducible exact hK | with_reducible refine below_drewN ?_ _ | with_reducible refine Below.drew ?_ | ((with_reducible refine Below.setCell ?_ ?hq _); (case hq => (first | (simp; done) | (simp; omega)))) | ((with_reducible refine Below.alloc ?_ ?hq _); (case hq => (first | (simp; done) | (simp; omega) | exact hK.size)))))))
    ((go_at_call 46; refine (HFE.out _ (H1.out.bytes.below ?hB)).mono ?_; (case hB => (repeat (first | with_reducible exact Below.refl _ _ | with_reducible exact hK | with_reducible refine below_drewN ?_ _ | with_reducible refine Below.drew ?_ | ((with_reducible refine Below.setCell ?_ ?hq _); (case hq => (first | (simp; done) | (simp; omega)))) | ((with_reducible refine Below.alloc ?_ ?hq _); (case hq => (first | (simp; done) | (simp; omega) | exact hK.size)))))); rintro e w2 ⟨rfl, hb2⟩; have hK : Below w1.heap.size w1 w2 := (Below.trans (by (repeat (first | with_reducible exact Below.refl _ _ | with_reducible exact hK | with_reducible refine below_drewN ?_ _ | with_reducible refine Below.drew ?_ | ((with_reducible refine Below.setCell ?_ ?hq _); (case hq => (first | (simp; done) | (simp; omega)))) | ((with_reducible refine Below.alloc ?_ ?hq _); (case hq => (first | (simp; done) | (simp; omega) | exact hK.size)))))) (hb2.mono (by first | (simp; done) | (simp; omega)))); (try have hx : w2.heap[w1.heap.size]? = some (.cells #[.int .i64 0, .int .i64 0, .int .i64 0, .int .i64 0, .int .i32 0] 110 (0, 0)) := (hb2.block w1.heap.size zH).trans (heap_alloc_new w1 _)); (try have x0 : w2.cell? ⟨w1.heap.size, 0, none⟩ = some (.int .i64 0) := cell_blk hx rfl); (try have x1 : w2.cell? ⟨w1.heap.size, 1, none⟩ = some (.int .i64 0) := cell_blk hx rfl); (try have x2 : w2.cell? ⟨w1.heap.size, 2, none⟩ = some (.int .i64 0) := cell_blk hx rfl); (try have x3 : w2.cell? ⟨w1.heap.size, 3, none⟩ = some (.int .i64 0) := cell_blk hx rfl); (try have x4 : w2.cell? ⟨w1.heap.size, 4, none⟩ = some (.int .i32 0) := cell_blk hx rfl); (try have xf := free_of_one' hx)))
  all_goals
    by_cases hcode : code = 0
    · obtain ⟨hs, hi32⟩ := HI.out hcode
      obtain ⟨s1, s2, s3, s4⟩ := isS_b hs
      subst hcode
      clear HI hs
      go_wp2_with fail
      refine (do_any (H1.out.below ?hKK) wf0 hlen ⟨q1, q2, q3, q4, q5⟩ s1 s2 s3 s4 hi32).mono ?_
      case hKK => (repeat (first | with_reducible exact Below.refl _ _ | with_reducible exact hK | with_reducible refine below_drewN ?_ _ | with_reducible refine Below.drew ?_ | ((with_reducible refine Below.setCell ?_ ?hq _); (case hq => (first | (simp; done) | (simp; omega)))) | ((with_reducible refine Below.alloc ?_ ?hq _); (case hq => (first | (simp; done) | (simp; omega) | exact hK.size)))))
      rintro e w3 ⟨rfl, hc, hg⟩
      go_wp2_with fail
      go_end0
      refine ⟨rfl, by rw [HD.out]; first | (rw [if_pos rfl]; exact hc) | (rw [if_pos trivial]; exact hc), (G1.out.trans (Cgo.of_below ?_ l2)).trans hg⟩
      (repeat (first | with_reducible exact Below.refl _ _ | with_reducible exact hK | with_reducible refine below_drewN ?_ _ | with_reducible refine Below.drew ?_ | ((with_reducible refine Below.setCell ?_ ?hq _); (case hq => (first | (simp; done) | (simp; omega)))) | ((with_reducible refine Below.alloc ?_ ?hq _); (case hq => (first | (simp; done) | (simp; omega) | exact hK.size)))))
    · go_wp2_with fail
      refine (trap_any (H1.out.below ?hKK) wf0.h code).mono ?_
      case hKK => (repeat (first | with_reducible exact Below.refl _ _ | with_reducible exact hK | with_reducible refine below_drewN ?_ _ | with_reducible refine Below.drew ?_ | ((with_reducible refine Below.setCell ?_ ?hq _); (case hq => (first | (simp; done) | (simp; omega)))) | ((with_reducible refine Below.alloc ?_ ?hq _); (case hq => (first | (simp; done) | (simp; omega) | exact hK.size)))))
      rintro e w3 ⟨rfl, hc, hg⟩
      go_wp2_with fail
      refine bodyPost_ret (results_none zE _ _ _) rfl ⟨rfl, by rw [HD.out, if_neg hcode]; exact hc, (G1.out.trans (Cgo.of_below ?_ l2)).trans hg⟩
      (repeat (first | with_reducible exact Below.refl _ _ | with_reducible exact hK | with_reducible refine below_drewN ?_ _ | with_reducible refine Below.drew ?_ | ((with_reducible refine Below.setCell ?_ ?hq _); (case hq => (first | (simp; done) | (simp; omega)))) | ((with_reducible refine Below.alloc ?_ ?hq _); (case hq => (first | (simp; done) | (simp; omega) | exact hK.size)))))
end
theorem info_harts : (Try.prog.info? 67).map (fun i => (i.zero, i.size, i.bytes)) = some (some (.agg (hcells hart0)), 37, 160) := by kernel_rfl
theorem clone_harts (v : Value) (n : Nat) (xs : List Value) (w : World) (hv : Sl w v 37 n xs) (h1c : ∀ u ∈ xs, u.oneCell' = true) (hr : n * 160 ≤ 140737488355328) :
    Calls Try.prog 45 #[v] w fun e w' => (∃ v', e = .returned v' ∧ w'.ownsRow w.heap.size 67 37 v' n xs ∧ (v' = .slice none 0 0 → v = .slice none 0 0)) ∧ Below w.heap.size w w' := by
  obtain ⟨hlen, ao, cap, rfl, hnc, hcm, hnone, hat⟩ := hv
  have heq := fun (W : World) (m c : Nat) => Lib.run_eql_slice_nil (P := Try.prog) W 23 67 ao m c 0 0 Try.underlying23
  unfold maxLen at hcm
  cases ao with
  | none =>
    obtain rfl : cap = 0 := hnone rfl
    obtain rfl : n = 0 := om
    obtain rfl : xs = [] := List.eq_nil_of_length_eq_zero (by simpa using hlen)
    clear hnone hat
    go_enter Try.func45, Try.ntmps45
    go_wp2
    go_ret
    exact ⟨⟨_, rfl, World.ownsRow_nil _ _ _ _, by simp⟩, Below.refl _ _⟩
  | some a =>
    obtain ⟨i0, hi, hz0, hz1, hz2⟩ := info_parts info_harts
    clear hnone
    have HAT := lI hat
    have HL := lI hlen
    have HC := lI h1c
    clear hat hlen h1c
    go_enter Try.func45, Try.ntmps45
    go_wp2_with (at_builtin; refine wpList_append_own _ rfl _ _ 23 rfl w.heap.size 67 i0 (.agg (hcells hart0)) 37 160 Try.underlying23 hi hz0 hz1 hz2 rfl zN _ 0 [] rfl ?_ a n cap xs rfl HL.out ?_ HC.out ?_ ?_ ?_ ?_)
    rotate_right
    · intro v' w1 hown hgrow hnil
      go_wp2
      go_ret
      refine ⟨⟨_, rfl, ?_, ?_⟩, ?_⟩
      · simpa using hown
      · intro h
        exact (hnil h).elim
      · exact (Below.alloc br (Nat.le_refl _) _).grown hgrow zH yE
    all_goals (first | (unfold maxLen; omega) | omega | (simp; done) | skip)
    · exact ownsRow_built _ _ _ _ (Nat.le_refl _)
    · intro j u hu
      have hj : j < xs.length := (List.getElem?_eq_some_iff.1 hu).1
      have hne : xs ≠ [] := by intro e; rw [e] at hj; simp at hj
      have h3 := (HAT.out a rfl hne)
      have h4 := h3.2 j hj
      have hu2 : u = xs[j] := by rw [List.getElem?_eq_getElem hj] at hu; exact (Option.some.inj hu).symm
      rw [hu2, addr_add a h3.1, World.cell?_alloc_lt _ _ _ (lt_of_cell h4)]
      exact h4
theorem begin_any (vm0 vh0 : Value) (m : Mach) (wf : m.Wf) (w : World) (hm : MachAt w vm0 vh0 m) (h1 : 1 ≤ m.harts.length) (h4 : m.harts.length ≤ 4) (hl : m.mem.length ≤ 4096) :
    Calls Try.prog 26 #[.agg #[vm0, vh0]] w fun e w' => (∃ bp bh hc vm, e = .returned (.pointer (some ⟨bp, 0, none⟩)) ∧ Bd bp bh hc vm (.slice none 0 0) 58 w' (startM m) ∧ w.heap.size ≤ bh ∧ (∀ k, vm.ownBlock = some k → w.heap.size ≤ k)) ∧ Below w.heap.size w w' := by
  have HM := lI hm
  obtain ⟨aom, capm, rfl, hcm, hmm, _, _⟩ := hm.1.open
  obtain ⟨aoh, caph, rfl, hch, hmh, _, _⟩ := hm.2.open (fun h hh => hlist_length (wf.harts h hh)) om
  have HC1 := lI (fun W hW => clone_bytes (.slice aom m.mem.length capm) m.mem.length (m.mem.map (Value.int .u8)) W hW yG om)
  have HC2 := lI (fun W hW => clone_harts (.slice aoh m.harts.length caph) m.harts.length (m.harts.flatMap hlist) W hW (by intro u hu; obtain ⟨h, _, hu⟩ := List.mem_flatMap.1 hu; exact hlist_one h u (by simpa [hcells] using hu)) om)
  obtain ⟨w1, hw1⟩ : ∃ w1, w1 = w.alloc (.cells #[.slice aom m.mem.length capm, .slice aoh m.harts.length caph] 25) := ⟨_, rfl⟩
  have hb1 : Below w.heap.size w w1 := by rw [hw1]; exact Fb.blw
  have hs1 : w1.heap.size = w.heap.size + 1 := by rw [hw1]; simp
  have c0 : w1.cell? ⟨w.heap.size, 0, none⟩ = some (.slice aom m.mem.length capm) := by rw [hw1]; go_cell
  have c1 : w1.cell? ⟨w.heap.size, 1, none⟩ = some (.slice aoh m.harts.length caph) := by rw [hw1]; go_cell
  have l1 : w.heap.size < w1.heap.size := om
  have KP : Hid (∀ w', Below w1.heap.size w1 w' → Below w1.heap.size w1 w' ∧ w'.cell? ⟨w.heap.size, 0, none⟩ = some (.slice aom m.mem.length capm) ∧ w'.cell? ⟨w.heap.size, 1, none⟩ = some (.slice aoh m.harts.length caph)) :=
    lI (fun w' h => ⟨h, (h.cell (p := ⟨w.heap.size, 0, none⟩) l1).trans c0, (h.cell (p := ⟨w.heap.size, 1, none⟩) l1).trans c1⟩)
  have HM1 := lI (HM.out.below hb1)
  have HW1 := lI hw1
  have HB1 := lI hb1
  have HS1 := lI hs1
  clear hm hw1 hb1 hs1 c0 c1 l1
  go_enter Try.func26, Try.ntmps26
  go_upto_region 1 with (fail)
  rw [← HW1.out]
  go_region_held3 (fun w' => Below w1.heap.size w1 w' ∧ w'.cell? ⟨w.heap.size, 0, none⟩ = some (.slice aom m.mem.length capm) ∧ w'.cell? ⟨w.heap.size, 1, none⟩ = some (.slice aoh m.harts.length caph))
    ((refine KP.out _ ?_; (repeat (first | with_reducible exact Below.refl _ _ | with_reducible exact hK | with_reducible refine below_drewN ?_ _ | with_reducible refine Below.drew ?_ | ((with_reducible refine Below.alloc ?_ ?hq _); (case hq => (first | (simp; done) | (simp; omega) | exact hK.size)))))))
    ((first
      | (go_at_call 44; refine (HC1.out _ (HM1.out.1.below ?hB)).mono ?_; (case hB => (repeat (first | with_reducible exact Below.refl _ _ | with_reducible exact hK | with_reducible refine below_drewN ?_ _ | with_reducible refine Below.drew ?_))); rintro e wx ⟨⟨vm, rfl, hown1, _⟩, hbm⟩; obtain ⟨ax, cx, rfl⟩ := owns_slice hown1; (have HO1 := lI hown1); clear hown1; have hK : Below w1.heap.size w1 wx := (Below.trans (by (repeat (first | with_reducible exact Below.refl _ _ | with_reducible exact hK | with_reducible refine below_drewN ?_ _ | with_reducible refine Below.drew ?_))) (hbm.mono (by first | exact hK.size | (simp; done)))))
      | (go_at_call 45; refine (HC2.out _ (HM1.out.2.below ?hB)).mono ?_; (case hB => (repeat (first | with_reducible exact Below.refl _ _ | with_reducible exact hK | with_reducible refine below_drewN ?_ _ | with_reducible refine Below.drew ?_))); rintro e wy ⟨⟨vh, rfl, hown2, _⟩, hbh⟩; obtain ⟨ay, cy, rfl⟩ := owns_slice hown2; (have HO2 := lI hown2); clear hown2; have hK : Below w1.heap.size w1 wy := (Below.trans (by (repeat (first | with_reducible exact Below.refl _ _ | with_reducible exact hK | with_reducible refine below_drewN ?_ _ | with_reducible refine Below.drew ?_))) (hbh.mono (by first | exact hK.size | (simp; done)))))))
  all_goals
    go_wp2_with fail
    go_ret
    have hne : ∀ k, (Value.slice ax m.mem.length cx).ownBlock = some k → (Value.slice ay m.harts.length cy).ownBlock ≠ some k := fun k e1 e2 => by
      have h1 := HO1.out.lt k e1
      have h2 := HO2.out.lt k e2
      omega
    have hs1 := HS1.out
    have h0 : w.heap.size ≤ w1.drew.heap.size := by show w.heap.size ≤ w1.heap.size; omega
    first
    | (have o1 := owns_below HO1.out hbh
       have hz := hbm.size
       have hK : Below w1.heap.size w1 wy := (Below.trans (Below.drew br) hbm).trans (hbh.mono hz)
       obtain ⟨bh, hc', e, hB2, hbd⟩ := Bd.begin (w := wy) (tB := 78) (ty := 58) o1 HO2.out hne h1
       exact ⟨⟨_, bh, hc', _, rfl, hbd, om, fun k e => by have := HO1.out.lt k e; omega⟩, HB1.out.trans ((Below.alloc hK (by have := hK.size; omega) _).mono om)⟩)
    | (have o2 := owns_below HO2.out hbm
       have hz := hbh.size
       have hK : Below w1.heap.size w1 wx := (Below.trans (Below.drew br) hbh).trans (hbm.mono hz)
       obtain ⟨bh, hc', e, hB2, hbd⟩ := Bd.begin (w := wx) (tB := 78) (ty := 58) HO1.out o2 hne h1
       exact ⟨⟨_, bh, hc', _, rfl, hbd, om, fun k e => by have := HO1.out.lt k e; omega⟩, HB1.out.trans ((Below.alloc hK (by have := hK.size; omega) _).mono om)⟩)
end Go.Proofs.Ytlfnddmncbkjaac.W
