/-
  The package-level table that strconv.Itoa reads is taken to hold the powers of ten; what strconv.Itoa returns (the shelf's contract).
-/
import Derived.Test.YtkjgcalkkfgmlaaDoorProg
import Derived.Test.YtkjgcalkkfgmlaaDoorShelf
import Derived.Test.YtkjgcalkkfgmlaaDoorExt
namespace Go.Proofs.YtkjgcalkkfgmlaaDoor
open Go.RowKit

/-- A variable's cells. -/
def cellsAt (w : World) (g : Nat) : Option (Array Value) := match w.heap[g]? with
  | some (.cells cs _ _) => some cs
  | _ => none
theorem cells_keep {w w' : World} {g : Nat} {cs : Array Value} (h : cellsAt w g = some cs) (hb : Below w.heap.size w w') : cellsAt w' g = some cs := by
  unfold cellsAt at h ⊢
  by_cases hlt : g < w.heap.size
  · rw [hb.block g hlt]; exact h
  · rw [Array.getElem?_eq_none (by omega)] at h; simp at h
theorem tab_iff {P : Program} {w : World} {name : String} {k : IntKind} {zs : List Int} {g : Nat} (hg : P.globalNamed name = some g) : Lib.TabIs P w name k zs ↔ cellsAt w g = some (zs.map fun z => Value.int k z).toArray := by
  unfold Lib.TabIs World.var? cellsAt
  rw [hg]; exact Iff.rfl
/-- The table of powers of ten. -/
def powIs (w : World) : Prop := cellsAt w (YtkjgcalkkfgmlaaDoor.laysItoa_ren.g 17) = some (Lib.pow10Tab.map fun z => Value.int .u64 z).toArray
instance : Glob Tryd.prog := ⟨powIs, fun _ _ h hb => cells_keep h hb⟩
def itoaCon (f : Nat) : Con := ⟨f, [.a (.ck (.int .i64))], .c (.a (.ck .str))⟩
def itoaF : List Sc → Option (List Sc)
  | [.i n] => if -9223372036854775808 ≤ n ∧ n ≤ 9223372036854775807 then some [.s ⟨(Lib.itoa n).toArray⟩] else none
  | _ => none
theorem grow_below (w : World) (k : Nat) (os : Array Obj) : Below w.heap.size w (Sort.grow (w.drewN k) os) :=
  ⟨rfl, rfl, rfl, by simp [Sort.grow, World.drewN], fun j hj => by
    show (w.heap ++ os)[j]? = w.heap[j]?
    rw [Array.getElem?_append_left hj]⟩
theorem itoa_holds : (itoaCon 54).holds Tryd.prog itoaF := by
  intro w hG vs l rs hargs hF
  have hG := (tab_iff YtkjgcalkkfgmlaaDoor.laysItoa.m17).2 (show powIs w from hG)
  obtain ⟨x, v1, l1, rfl, rfl, h1⟩ := csRelL_cell hargs
  obtain ⟨rfl, rfl⟩ := csRelL_nil h1
  unfold itoaF at hF
  split at hF
  · rename_i n he
    cases he
    split at hF
    · rename_i hn
      cases hF
      refine .inl ⟨Tryd.call54 _ _, (Any.strconv_Itoa YtkjgcalkkfgmlaaDoor.laysItoa n hn.1 hn.2 w hG).mono ?_⟩
      rintro e w' ⟨rfl, k, os, rfl⟩
      exact ⟨_, rfl, grow_below w k os, ⟨_, rfl, rfl⟩⟩
    · cases hF
  · cases hF
noncomputable def k_strconv_Itoa : Known Tryd.prog := ⟨itoaCon 54, itoaF, itoa_holds⟩
theorem k_strconv_Itoa_f : k_strconv_Itoa.con.f = 54 := rfl
theorem k_strconv_Itoa_F (l : List Sc) : k_strconv_Itoa.F l = itoaF l := rfl
end Go.Proofs.YtkjgcalkkfgmlaaDoor
