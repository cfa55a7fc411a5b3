import Derived.Test.YtlfnddmncbkjaabZZK
import Derived.Test.YtlfnddmncbkjaabZMB
set_option linter.unusedVariables false
set_option linter.unusedSimpArgs false
set_option maxRecDepth 100000
set_option maxHeartbeats 4000000
namespace Go.Proofs.Ytlfnddmncbkjaab.Fb
open Go.RowKit
def didl0 (h : Hart) (vm : Value) : List Value := hlist h ++ [vm, .slice none 0 0, .int .i64 0, .slice none 0 0]
section
variable {rp : Nat} {TO TS : TypeId} {w w2 w' : World} {d : RunD} {vm vo vs : Value}
theorem r7_didl (h : R7 rp TO TS w d vm vo vs) : At w rp 0 (didl d vm vo vs) := by
  have := h.at_
  unfold r7list r7tail at this
  rw [← List.append_assoc] at this
  exact this.append_left
theorem didl_size (h : d.h.regs.length = 32) : (didl d vm vo vs).toArray.size = 41 := by
  simp [didl, hlist_len h]
theorem didl_all (h : R7 rp TO TS w d vm vo vs) : (didl d vm vo vs).toArray.all (·.oneCell') = true := by
  obtain ⟨a1, c1, e1, -⟩ := h.mem.open
  obtain ⟨a2, c2, e2⟩ := owns_slice h.out
  obtain ⟨a3, c3, e3⟩ := owns_slice h.sto
  rw [Array.all_eq_true']
  intro v hv
  have hv' : v ∈ didl d vm vo vs := by simpa using hv
  rcases List.mem_append.1 hv' with h1 | h1
  · exact hlist_one d.h v (by simpa [hcells] using h1)
  · simp only [List.mem_cons, List.not_mem_nil, or_false] at h1
    rcases h1 with rfl | rfl | rfl | rfl
    · rw [e1]; rfl
    · rw [e2]; rfl
    · rfl
    · rw [e3]; rfl
theorem bytes_not {q : Nat} {l : List Int} {TD : TypeId} (h : Ints .u8 w vm l) (hn : l ≠ []) (hq : vm.ownBlock = some q) (hz : w.heap[q]? = some (.cells (didl0 hart0 (.slice none 0 0)).toArray TD (0, 0))) : False := by
  obtain ⟨hl, ao, cap, rfl, q1, q2, q3, q4⟩ := h
  cases ao with
  | none => cases hq
  | some x =>
    obtain ⟨hs, ha⟩ := q4 x rfl (by intro e; exact hn (List.map_eq_nil_iff.1 e))
    have hxq : x.block = q := by simpa [Value.ownBlock] using hq
    have h0 : 0 < (l.map (Value.int .u8)).length := by rw [List.length_map]; exact Nat.pos_of_ne_zero (fun e => hn (List.eq_nil_of_length_eq_zero e))
    have h1 := ha 0 h0
    rw [List.getElem_map] at h1
    unfold World.cell? at h1
    rw [show (⟨x.block, x.off + 0, none⟩ : Addr).block = q from hxq, hz] at h1
    simp only [Option.isSome_none] at h1
    have key : ∀ v ∈ (didl0 hart0 (.slice none 0 0)), ∀ y, v ≠ Value.int .u8 y := by
      intro v hv y e
      subst e
      simp [didl0, hlist, hart0] at hv
    have h2 : (didl0 hart0 (.slice none 0 0)).toArray[x.off + 0]? = some (Value.int .u8 l[0]) := by simpa using h1
    have h3 : Value.int .u8 l[0] ∈ (didl0 hart0 (.slice none 0 0)).toArray := Array.mem_of_getElem? h2
    exact key _ (by simpa using h3) _ rfl
theorem g7_below {r : Nat} (hb : Below r w w2) (hr : r ≤ rp) (hr2 : r ≤ w2.heap.size) (hg : G7 rp w2 (.slice none 0 0) (.slice none 0 0) w' vo vs) : Below r w w' :=
  ⟨hg.os.trans hb.os, hg.tape.trans hb.tape, hg.output.trans hb.output, Nat.le_trans hb.size hg.size, fun k hk => (hg.block k (by omega) (by omega) (by intro e; cases e) (by intro e; cases e)).trans (hb.block k hk)⟩
theorem r7owns_sets {B b : Nat} {T : TypeId} {s n : Nat} {v : Value} {xs : List Value} (hlt : b < B) : ∀ (us : List Value) (o : Nat) (w : World), w.ownsRow B T s v n xs → (w.setCells b o us).ownsRow B T s v n xs
  | [], _, _, h => h
  | u :: r, o, w, h => r7owns_sets hlt r (o + 1) _ (ownsRow_setCell_below h (a := ⟨b, o, none⟩) hlt u)
theorem r7_shown {R : Nat} {TD : TypeId} (h : R7 rp TO TS w d vm vo vs) (hR : R < rp) (hz : w.heap[R]? = some (.cells (didl0 hart0 (.slice none 0 0)).toArray TD (0, 0))) (us : List Value) :
    Ints .u8 (w.setCells R 0 us) vm d.m ∧ Ints .u32 (w.setCells R 0 us) vo d.out ∧ Sl (w.setCells R 0 us) vs 2 d.stores.length (d.stores.flatMap rg) := by
  refine ⟨r7ints_keep h.mem (fun hn q e => heap_setCells (fun e2 => ?_) _ _ _), ?_, ?_⟩
  · subst e2; exact bytes_not h.mem hn e hz
  · exact owns_sl (r7owns_sets (show R < rp + 1 by omega) us 0 w h.out)
  · exact owns_sl (r7owns_sets (show R < rp + 1 by omega) us 0 w h.sto)
end
end Go.Proofs.Ytlfnddmncbkjaab.Fb
