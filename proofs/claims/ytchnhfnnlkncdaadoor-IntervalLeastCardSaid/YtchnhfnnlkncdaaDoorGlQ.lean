/-
  The package-level table of quantiles is taken to hold them; what Quantile returns.
-/
import Derived.Test.YtchnhfnnlkncdaaDoorProg
import Derived.Test.YtchnhfnnlkncdaaDoorRows
import Derived.Test.YtchnhfnnlkncdaaDoorExt
import Derived.Deep.Slices
import Derived.LaidMore
namespace Go.Proofs.YtchnhfnnlkncdaaDoor
open Go.RowKit

def quantL : List Int := [12706, 4303, 3182, 2776, 2571, 2447, 2365, 2306, 2262, 2228, 2201, 2179, 2160, 2145, 2131, 2120, 2110, 2101, 2093, 2086, 2080, 2074, 2069, 2064, 2060, 2056, 2052, 2048, 2045, 2042]
def quantIs (w : World) : Prop := ∃ (a : Addr) (cap : Nat), a.block < w.heap.size ∧ w.cell? ⟨0, 0, none⟩ = some (.slice (some a) 30 cap) ∧ ∀ i, i < 30 → w.cell? (a.add i) = some (.int .i64 (quantL.getD i 0))
theorem add_block (a : Addr) (i : Nat) : (a.add i).block = a.block := by
  unfold Addr.add; split <;> rfl
theorem quant_keep {w w' : World} (h : quantIs w) (hb : Below w.heap.size w w') : quantIs w' := by
  obtain ⟨a, cap, h1, h2, h3⟩ := h
  refine ⟨a, cap, Nat.lt_of_lt_of_le h1 hb.size, ?_, fun i hi => ?_⟩
  · rw [hb.cell (show 0 < w.heap.size by omega)]; exact h2
  · rw [hb.cell (by rw [add_block]; exact h1)]; exact h3 i hi
instance : Glob Tryd.prog := ⟨quantIs, fun _ _ h hb => quant_keep h hb⟩
def quantV (n : Int) : Int × Bool := if n < 1 ∨ 50 < n then (0, false) else if n ≤ 30 then (quantL.getD (n.toNat - 1) 0, true) else if n ≤ 40 then (2021, true) else (2009, true)
theorem quant_walk (n : Int) (w : World) (hG : quantIs w) : Calls Tryd.prog 11 #[.int .i64 n] w fun e w' => e = .returned (.tuple #[.int .i64 (quantV n).1, .bool (quantV n).2]) ∧ w' = w := by
  obtain ⟨a, cap, h1, h2, h3⟩ := hG
  unfold quantV
  by_cases c1 : n < 1
  · rw [if_pos (.inl c1)]
    go_enter Tryd.func11, Tryd.ntmps11
    go_wp2
    go_ret2
    exact ⟨rfl, rfl⟩
  by_cases c2 : 50 < n
  · rw [if_pos (.inr c2)]
    go_enter Tryd.func11, Tryd.ntmps11
    go_wp2
    go_ret2
    exact ⟨rfl, rfl⟩
  rw [if_neg (by omega)]
  by_cases c3 : n ≤ 30
  · rw [if_pos c3]
    have e1 : IntKind.i64.wrap (n - 1) = n - 1 := by rw [IntKind.wrap_i64]; omega
    have h4 := h3 (n.toNat - 1) (by omega)
    go_enter Tryd.func11, Tryd.ntmps11
    go_wp2
    go_ret2
    exact ⟨rfl, rfl⟩
  rw [if_neg c3]
  by_cases c4 : n ≤ 40
  · rw [if_pos c4]
    go_enter Tryd.func11, Tryd.ntmps11
    go_wp2
    go_ret2
    exact ⟨rfl, rfl⟩
  · rw [if_neg c4]
    go_enter Tryd.func11, Tryd.ntmps11
    go_wp2
    go_ret2
    exact ⟨rfl, rfl⟩
def quantCon (f : Nat) : Con := ⟨f, [.a (.ck (.int .i64))], .t [.a (.ck (.int .i64)), .a (.ck .bool)]⟩
def quantF : List Sc → Option (List Sc)
  | [.i n] => some [.i (quantV n).1, .b (quantV n).2]
  | _ => none
theorem quant_holds : (quantCon 11).holds Tryd.prog quantF := by
  intro w hG vs l rs hargs hF
  obtain ⟨x, v1, l1, rfl, rfl, h1⟩ := csRelL_cell hargs
  obtain ⟨rfl, rfl⟩ := csRelL_nil h1
  unfold quantF at hF
  split at hF
  · rename_i n he
    cases he
    cases hF
    refine .inl ⟨Tryd.call11 _ _, (quant_walk n w hG).mono ?_⟩
    rintro e w' ⟨rfl, rfl⟩
    exact ⟨_, rfl, .refl _ _, ⟨[.int .i64 (quantV n).1, .bool (quantV n).2], rfl, [.i (quantV n).1], [.b (quantV n).2], rfl, ⟨_, rfl, rfl⟩, [.b (quantV n).2], [], rfl, ⟨_, rfl, rfl⟩, rfl⟩⟩
  · cases hF
noncomputable def k_interval_Quantile : Known Tryd.prog := ⟨quantCon 11, quantF, quant_holds⟩
theorem k_interval_Quantile_f : k_interval_Quantile.con.f = 11 := rfl
theorem k_interval_Quantile_F (l : List Sc) : k_interval_Quantile.F l = quantF l := rfl
/-- What the row's condition gives. -/
theorem glob_of_laid {W : World} (h : laidMetH Tryd.prog Rows.intervalOfRow.laid W) : Glob.G Tryd.prog W := by
  have h : laidMet Tryd.prog Rows.intervalOfRow.laid W := (MakeChecks.laidMetH_plain _ _ _ (by kernel_rfl)).symm ▸ h
  obtain ⟨ps, ⟨g, t, cs, fuel, p, q, hg, ht, hv, hd, _, _⟩, _, _⟩ := h
  obtain rfl : 0 = g := Option.some.inj ((show Tryd.prog.globalNamed _ = some 0 by kernel_rfl).symm.trans hg)
  obtain rfl : 39 = t := Option.some.inj ((show (Tryd.prog.globals[0]?).map (·.type) = some 39 by kernel_rfl).symm.trans ht)
  have c3 : Tryd.prog.cellsOf 3 = 1 := by kernel_rfl
  rcases Go.Deep.open_slice1 Tryd.underlying39 c3 hd with ⟨_, hx⟩ | ⟨a, len, cap, m, n, V, D, Pl, hcs, _, hl, _, hm, hx, hV⟩
  · cases hx
  · have hx1 := congrArg Prod.fst hx
    simp only [Rows.laid_simulator_interval_quantiles, DataW.slice.injEq] at hx1
    have hlen : len = 30 := by
      have := congrArg List.length hx1.1
      simpa using this.symm
    subst hlen
    have hml : 30 ≤ m := by rw [hm]; split <;> omega
    have hcell : W.cell? ⟨0, 0, none⟩ = some (.slice (some a) 30 cap) := by
      have := World.var?_cell hg hv 0
      rw [Array.eq_one_of_toList hcs] at this
      simpa using this
    refine ⟨a, cap, ?_, hcell, fun i hi => ?_⟩
    · have := (hV 0 (by omega)).1
      refine Classical.byContradiction fun hn => ?_
      unfold World.cell? at this
      rw [show (a.add 0).block = a.block from add_block a 0, Array.getElem?_eq_none (by omega)] at this
      simp at this
    · obtain ⟨v1, v2⟩ := hV i (by omega)
      obtain ⟨z, e1, e2, _⟩ := DataW.trod_int Tryd.underlying3 v2
      have hD : D i = .lit (.int .i64 (quantL.getD i 0)) := by
        have h2 : ((List.range 30).map D)[i]? = some (D i) := by simp [hi]
        rw [← hx1.1] at h2
        have h3 : ∀ j, j < 30 → ([.lit (.int .i64 12706), .lit (.int .i64 4303), .lit (.int .i64 3182), .lit (.int .i64 2776), .lit (.int .i64 2571), .lit (.int .i64 2447), .lit (.int .i64 2365), .lit (.int .i64 2306), .lit (.int .i64 2262), .lit (.int .i64 2228), .lit (.int .i64 2201), .lit (.int .i64 2179), .lit (.int .i64 2160), .lit (.int .i64 2145), .lit (.int .i64 2131), .lit (.int .i64 2120), .lit (.int .i64 2110), .lit (.int .i64 2101), .lit (.int .i64 2093), .lit (.int .i64 2086), .lit (.int .i64 2080), .lit (.int .i64 2074), .lit (.int .i64 2069), .lit (.int .i64 2064), .lit (.int .i64 2060), .lit (.int .i64 2056), .lit (.int .i64 2052), .lit (.int .i64 2048), .lit (.int .i64 2045), .lit (.int .i64 2042)] : List (DataW Unit))[j]? = some (.lit (.int .i64 (quantL.getD j 0))) := by
          intro j hj
          have : j = 0 ∨ j = 1 ∨ j = 2 ∨ j = 3 ∨ j = 4 ∨ j = 5 ∨ j = 6 ∨ j = 7 ∨ j = 8 ∨ j = 9 ∨ j = 10 ∨ j = 11 ∨ j = 12 ∨ j = 13 ∨ j = 14 ∨ j = 15 ∨ j = 16 ∨ j = 17 ∨ j = 18 ∨ j = 19 ∨ j = 20 ∨ j = 21 ∨ j = 22 ∨ j = 23 ∨ j = 24 ∨ j = 25 ∨ j = 26 ∨ j = 27 ∨ j = 28 ∨ j = 29 := by omega
          rcases this with rfl | rfl | rfl | rfl | rfl | rfl | rfl | rfl | rfl | rfl | rfl | rfl | rfl | rfl | rfl | rfl | rfl | rfl | rfl | rfl | rfl | rfl | rfl | rfl | rfl | rfl | rfl | rfl | rfl | rfl <;> rfl
        rw [h3 i hi] at h2
        exact (Option.some.inj h2).symm
      rw [hD] at e2
      have e3 := congrArg Prod.fst e2
      simp only [DataW.lit.injEq, Lit.int.injEq, true_and] at e3
      rw [v1, e3]
      simpa using e1
end Go.Proofs.YtchnhfnnlkncdaaDoor
