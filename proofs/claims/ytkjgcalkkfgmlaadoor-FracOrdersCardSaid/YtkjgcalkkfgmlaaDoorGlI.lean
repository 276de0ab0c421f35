/-
  The package-level table that strconv.Itoa reads is taken to hold the powers of ten; what strconv.Itoa returns (the shelf's contract).
-/
import Derived.Test.YtkjgcalkkfgmlaaDoorProg
import Derived.Test.YtkjgcalkkfgmlaaDoorShelf
import Derived.Test.YtkjgcalkkfgmlaaDoorExt
namespace Go.Proofs.YtkjgcalkkfgmlaaDoor
open Go.RowKit

theorem tab_keep {P : Program} {w w' : World} {name : String} {k : IntKind} {zs : List Int} (h : Lib.TabIs P w name k zs) (hb : Below w.heap.size w w') : Lib.TabIs P w' name k zs := by
  unfold Lib.TabIs World.var? at h ⊢
  cases hg : P.globalNamed name with
  | none => rw [hg] at h; simp at h
  | some g =>
    rw [hg] at h
    simp only [Option.bind_some] at h ⊢
    by_cases hlt : g < w.heap.size
    · rw [hb.block g hlt]; exact h
    · rw [Array.getElem?_eq_none (by omega)] at h; simp at h
instance : Glob Tryd.prog := ⟨fun w => Lib.TabIs Tryd.prog w "internal/strconv.uint64pow10" .u64 Lib.pow10Tab, fun _ _ h hb => tab_keep h hb⟩
theorem glob_iff (w : World) : Glob.G Tryd.prog w = Lib.TabIs Tryd.prog w "internal/strconv.uint64pow10" .u64 Lib.pow10Tab := rfl
def itoaCon (f : Nat) : Con := ⟨f, [.a (.ck (.int .i64))], .c (.a (.ck .str))⟩
def itoaF : List Sc → Option (List Sc)
  | [.i n] => if -9223372036854775808 ≤ n ∧ n ≤ 9223372036854775807 then some [.s ⟨(Lib.itoa n).toArray⟩] else none
  | _ => none
theorem grow_below (w : World) (k : Nat) (os : Array Obj) : Below w.heap.size w (Sort.grow (w.drewN k) os) :=
  ⟨rfl, rfl, rfl, by simp [Sort.grow, World.drewN], fun j hj => by
    show (w.heap ++ os)[j]? = w.heap[j]?
    rw [Array.getElem?_append_left hj]⟩
theorem itoa_holds : (itoaCon 54).holds Tryd.prog itoaF := by
  intro w hG vs l rs hargs hF
  have hG : Lib.TabIs Tryd.prog w "internal/strconv.uint64pow10" .u64 Lib.pow10Tab := hG
  obtain ⟨x, v1, l1, rfl, rfl, h1⟩ := csRelL_cell hargs
  obtain ⟨rfl, rfl⟩ := csRelL_nil h1
  unfold itoaF at hF
  split at hF
  · rename_i n he
    cases he
    split at hF
    · rename_i hn
      cases hF
      refine .inl ⟨Tryd.call54 _ _, (Any.strconv_Itoa YtkjgcalkkfgmlaaDoor.laysItoa n hn.1 hn.2 w hG).mono ?_⟩
      rintro e w' ⟨rfl, k, os, rfl⟩
      exact ⟨_, rfl, grow_below w k os, ⟨_, rfl, rfl⟩⟩
    · cases hF
  · cases hF
noncomputable def k_strconv_Itoa : Known Tryd.prog := ⟨itoaCon 54, itoaF, itoa_holds⟩
theorem k_strconv_Itoa_f : k_strconv_Itoa.con.f = 54 := rfl
theorem k_strconv_Itoa_F (l : List Sc) : k_strconv_Itoa.F l = itoaF l := rfl
end Go.Proofs.YtkjgcalkkfgmlaaDoor
