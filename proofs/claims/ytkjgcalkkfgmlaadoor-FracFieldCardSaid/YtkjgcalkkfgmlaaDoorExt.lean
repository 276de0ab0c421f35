/-
  What the library's functions without a body return: bits.Add64, bits.Sub64.
-/
import Derived.Test.YtkjgcalkkfgmlaaDoorSymX
import Derived.Shelf.Spec.BitsCarry
namespace Go.Proofs.YtkjgcalkkfgmlaaDoor
open Go.RowKit

abbrev cU64 : CS := .a (.ck (.int .u64))
def carryCon (f : Nat) : Con := ⟨f, [cU64, cU64, cU64], .t [cU64, cU64]⟩
def add64F : List Sc → Option (List Sc)
  | [.i x, .i y, .i c] => if 0 ≤ x ∧ 0 ≤ y ∧ 0 ≤ c ∧ c ≤ 1 then some [.i ((x + y + c) % 18446744073709551616), .i ((x + y + c) / 18446744073709551616)] else none
  | _ => none
def sub64F : List Sc → Option (List Sc)
  | [.i x, .i y, .i c] => if 0 ≤ x ∧ x < 18446744073709551616 ∧ 0 ≤ y ∧ y < 18446744073709551616 ∧ 0 ≤ c ∧ c ≤ 1 then some [.i ((x - y - c) % 18446744073709551616), .i (if x < y + c then 1 else 0)] else none
  | _ => none
theorem csRelL_cell {w : World} {ok : Nat → Prop} {k : CK} {ss : List CS} {vs : List Value} {l : List Sc} (h : csRelL w ok (.a (.ck k) :: ss) vs l) : ∃ x vs' l', vs = k.val x :: vs' ∧ l = x :: l' ∧ csRelL w ok ss vs' l' := by
  cases vs with
  | nil => exact h.elim
  | cons v vs' =>
    obtain ⟨l1, l2, rfl, ⟨x, rfl, hx⟩, hr⟩ := h
    have hx : v = k.val x := hx
    exact ⟨x, vs', l2, by rw [hx], rfl, hr⟩
theorem csRelL_nil {w : World} {ok : Nat → Prop} {vs : List Value} {l : List Sc} (h : csRelL w ok [] vs l) : vs = [] ∧ l = [] := by
  cases vs with
  | nil => exact ⟨rfl, h⟩
  | cons v vs' => exact h.elim
theorem three_args {w : World} {ok : Nat → Prop} {vs : List Value} {l : List Sc} (h : csRelL w ok [cU64, cU64, cU64] vs l) : ∃ x y z : Sc, l = [x, y, z] ∧ vs = [.int .u64 x.int, .int .u64 y.int, .int .u64 z.int] := by
  obtain ⟨x, v1, l1, rfl, rfl, h1⟩ := csRelL_cell h
  obtain ⟨y, v2, l2, rfl, rfl, h2⟩ := csRelL_cell h1
  obtain ⟨z, v3, l3, rfl, rfl, h3⟩ := csRelL_cell h2
  obtain ⟨rfl, rfl⟩ := csRelL_nil h3
  exact ⟨x, y, z, rfl, rfl⟩
theorem two_res {w : World} {ok : Nat → Prop} (a b : Int) : rsRel w ok (.t [cU64, cU64]) (.tuple #[.int .u64 a, .int .u64 b]) [.i a, .i b] :=
  ⟨[.int .u64 a, .int .u64 b], rfl, [.i a], [.i b], rfl, ⟨_, rfl, rfl⟩, [.i b], [], rfl, ⟨_, rfl, rfl⟩, rfl⟩
theorem add64_holds {P : Program} [Glob P] {f : FuncId} {fn : Func} (hf : P.funcs[f]? = some fn) (h1 : (fn.name == "runtime.NumGoroutine") = false) (h2 : fn.body.isNone = true) (h3 : Extern.findNext fn = none) (h4 : Extern.find fn = some add64Entry) : (carryCon f).holds P add64F := by
  intro w _ vs l rs hargs hF
  obtain ⟨x, y, z, rfl, rfl⟩ := three_args hargs
  right
  unfold add64F at hF
  split at hF
  · rename_i x y c he
    cases he
    split at hF
    · rename_i hc
      cases hF
      refine ⟨_, w, ?_, .refl _ _, two_res _ _⟩
      show (callFunc f #[.int .u64 x, .int .u64 y, .int .u64 c]).run P w = _
      rw [run_callFunc_extern hf h1 h2 h3 h4, run_add64 x y c hc.1 hc.2.1 hc.2.2.1 hc.2.2.2]
      rfl
    · cases hF
  · cases hF
theorem sub64_holds {P : Program} [Glob P] {f : FuncId} {fn : Func} (hf : P.funcs[f]? = some fn) (h1 : (fn.name == "runtime.NumGoroutine") = false) (h2 : fn.body.isNone = true) (h3 : Extern.findNext fn = none) (h4 : Extern.find fn = some sub64Entry) : (carryCon f).holds P sub64F := by
  intro w _ vs l rs hargs hF
  obtain ⟨x, y, z, rfl, rfl⟩ := three_args hargs
  right
  unfold sub64F at hF
  split at hF
  · rename_i x y c he
    cases he
    split at hF
    · rename_i hc
      cases hF
      obtain ⟨a1, a2, b1, b2, c1, c2⟩ := hc
      refine ⟨_, w, ?_, .refl _ _, two_res _ _⟩
      show (callFunc f #[.int .u64 x, .int .u64 y, .int .u64 c]).run P w = _
      obtain ⟨X, rfl⟩ := Int.eq_ofNat_of_zero_le a1
      obtain ⟨Y, rfl⟩ := Int.eq_ofNat_of_zero_le b1
      obtain ⟨C, rfl⟩ := Int.eq_ofNat_of_zero_le c1
      rw [run_callFunc_extern hf h1 h2 h3 h4, run_sub64 X Y C (by omega)]
      have e1 : (((X + 18446744073709551616 - Y - C) % 18446744073709551616 : Nat) : Int) = ((X : Int) - Y - C) % 18446744073709551616 := by omega
      have e2 : ((if X < Y + C then 1 else 0 : Nat) : Int) = if (X : Int) < Y + C then 1 else 0 := by
        by_cases h : X < Y + C
        · rw [if_pos h, if_pos (by omega)]; rfl
        · rw [if_neg h, if_neg (by omega)]; rfl
      rw [e1, e2]; rfl
    · cases hF
  · cases hF
end Go.Proofs.YtkjgcalkkfgmlaaDoor
