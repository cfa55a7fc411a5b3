/- slices.Delete of one block, walked. -/
import Derived.Test.YtlfnddmncbkjaaaZWCache5
import Derived.Test.YtlfnddmncbkjaaaZMB
namespace Go.Proofs.Ytlfnddmncbkjaaa.W
set_option linter.unusedVariables false
set_option linter.unusedSimpArgs false
open Go.RowKit Fb
set_option maxRecDepth 100000 in
set_option maxHeartbeats 1600000 in
theorem delete_any (B : Nat) (v : Value) (ys : List BlkD) (k : Nat) (w : World) (hv : Cp B 63 54 w v ys) (hB : B ≤ w.heap.size) (hk : k < ys.length) :
    Calls Try.prog 80 #[v, .int .i64 k, .int .i64 ((k : Int) + 1)] w fun e w' => (∃ v', e = .returned v' ∧ Cp B 63 54 w' v' (ys.eraseIdx k)) ∧ Below B w w' := by
  have hne : 63 ≠ 54 := by decide
  obtain ⟨cap, e, hBg, hnc, hcm, hsh, hat⟩ := shape_of hv.own (by omega)
  obtain ⟨g, hg⟩ : ∃ g, g = v.ownBlock.getD 0 := ⟨_, rfl⟩
  rw [← hg] at e hBg hsh hat
  clear hg
  subst e
  obtain ⟨n, hn⟩ : ∃ n, n = ys.length := ⟨_, rfl⟩
  obtain ⟨news, hnews⟩ : ∃ u, u = (ys.drop (k + 1)).flatMap blist := ⟨_, rfl⟩
  have hone : ∀ u ∈ news, u.oneCell' = true := fun u hu => by
    rw [hnews] at hu
    obtain ⟨y, hy, hu⟩ := List.mem_flatMap.1 hu
    exact blk1_one (hv.row y (List.mem_of_mem_drop hy)) u hu
  have hnl : news.length = (n - (k + 1)) * 2 := by rw [hnews, flat2_len, hn]; simp
  have hnat : At w g ((k + 1) * 2) news := by
    have e : ys.flatMap blist = (ys.take (k + 1)).flatMap blist ++ (ys.drop (k + 1)).flatMap blist := by rw [← List.flatMap_append, List.take_append_drop]
    rw [e] at hat
    have := hat.append_right
    rw [flat2_len, Nat.zero_add, show (ys.take (k + 1)).length = k + 1 by simp; omega, ← hnews] at this
    exact this
  have HER : Hid (∀ zs : List Value, _ ∧ _) := Lib.hid (fun zs => Cp.erase hne (hv.below (Below.drew (Below.refl _ _) : Below w.heap.size w w.drew)) hBg hk hnc hcm (hsh.block rfl) hat zs)
  rw [← hnews, ← hn] at HER
  obtain ⟨r, hr⟩ : ∃ r, r + 1 = n := ⟨n - 1, by omega⟩
  rw [show n - 1 = r by omega] at HER
  have HSH := Lib.hid hsh
  have HNA := Lib.hid hnat
  have HONE := Lib.hid hone
  have HNL := Lib.hid hnl
  rw [← hn] at hk hnc hv
  unfold maxLen at hcm
  rw [← hn]
  clear hn hnews hone hnl hnat hv hsh hat
  have i0 : (0 : Int) ≤ (k : Int) := by omega
  have i1 : (k : Int) ≤ (k : Int) + 1 := by omega
  have i2 : (k : Int) + 1 ≤ (n : Int) := by omega
  have i3 : (n : Int) ≤ (cap : Int) := by omega
  have i4 : ((k : Int) == (k : Int) + 1) = false := by simp; omega
  have i5 : (0 : Int) ≤ (k : Int) + 1 := by omega
  have i6 : (k : Int) ≤ (cap : Int) := by omega
  have i7 : (k : Int) ≤ (n : Int) := by omega
  obtain ⟨ib, hib, hib0, hib1, hib2⟩ := info_parts info_block5
  go_enter Try.func80, Try.ntmps80
  go_upto_region 5 with (fail)
  have i8 : (0 : Int) ≤ (n : Int) := by omega
  have hck : cap = k + 1 → n = k + 1 := by omega
  have HCK := Lib.hid hck
  clear hck
  have r1 : (r : Int) ≤ (n : Int) := by omega
  have r2 : (r : Int) ≤ (cap : Int) := by omega
  have r3 : ¬ (cap : Int) = (r : Int) := by omega
  have r4 : ¬ cap = r := by omega
  have hz1 : ∀ v ∈ (Value.agg #[.int .u32 0, .slice none 0 0]).cells.toList, v.oneCell' = true := fun v hv => by
    simp [Value.cells] at hv
    rcases hv with rfl | rfl <;> rfl
  have HTH : Hid (w.drew.there g (k * 2) news.length) := Lib.hid ((HSH.out.block (w' := w.drew) rfl).there (by rw [HNL.out]; omega))
  have HNW : Hid (∀ (j : Nat) (u : Value), news[j]? = some u → w.drew.cell? ((⟨g, (k + 1) * 2, none⟩ : Addr).add j) = some u) := Lib.hid (fun j u hu => by
    obtain ⟨hj, e⟩ := List.getElem?_eq_some_iff.1 hu
    rw [addr_add _ rfl, ← e]
    exact HNA.out j hj)
  have HR := Lib.hid hr
  clear hr
  by_cases hcj : cap = k + 1
  · have hnk := HCK.out hcj
    have hrk : r = k := by have := HR.out; omega
    have hnil : news = [] := List.eq_nil_of_length_eq_zero (by rw [HNL.out]; omega)
    have hthr : (w.drew.setCells g (k * 2) []).there g (k * 2) (1 * 2) := (HSH.out.block (w' := w.drew) rfl).there (by omega)
    subst hcj hnk hrk hnil
    clear r1 r2 r3 r4 i3 i2 i6 i7 i8 hnc hcm HNL HNA HNW HCK HR
    go_region_law (
      refine step_append_fit (by rfl) _ _ _ (by rfl) 63 ib 2 Try.underlying58 hib hib1 g r (r + 1) (by rfl) ⟨g, 0, none⟩ 0 0 [] (by rfl) rfl (by intro j u hu; cases hu) (by intro u hu; cases hu) (by omega) r rfl HTH.out ?_)
    all_goals
      go_upto_region 6 with (fail)
      go_wp2_with (first | (refine wpList_clear rfl _ 58 63 rfl ib _ 2 Try.underlying58 hib hib0 rfl hz1 g (r * 2) 1 1 rfl hthr ?_))
      intro zs hzs
      have HFIN := Lib.hid (HER.out zs)
      clear hthr
      go_wp2_with fail
      go_ret
      exact ⟨⟨_, rfl, HFIN.out.1⟩, (Below.drew (Below.refl _ _)).trans HFIN.out.2⟩
  · have hcj2 : ¬ (cap : Int) = (k : Int) + 1 := by omega
    have hcj3 : ¬ cap - (k + 1) = 0 := by omega
    go_region_law (
      refine step_append_fit (by rfl) _ _ _ (by rfl) 63 ib 2 Try.underlying58 hib hib1 g k cap (by rfl) ⟨g, (k + 1) * 2, none⟩ (n - (k + 1)) (cap - (k + 1)) news (by rfl) HNL.out HNW.out HONE.out (by omega) r (by have := HR.out; omega) HTH.out ?_)
    all_goals
      have hthr : (w.drew.setCells g (k * 2) news).there g (r * 2) ((n - r) * 2) := (Shape.setCells g news (k * 2) (HSH.out.block (w' := w.drew) rfl)).there (by omega)
      go_upto_region 6 with (fail)
      go_wp2_with (first | (refine wpList_clear rfl _ 58 63 rfl ib _ 2 Try.underlying58 hib hib0 rfl hz1 g (r * 2) (n - r) (cap - r) rfl hthr ?_))
      intro zs hzs
      have HFIN := Lib.hid (HER.out zs)
      clear hthr
      go_wp2_with fail
      go_ret
      exact ⟨⟨_, rfl, HFIN.out.1⟩, (Below.drew (Below.refl _ _)).trans HFIN.out.2⟩
end Go.Proofs.Ytlfnddmncbkjaaa.W
