/-
  What the functions of this seat reckon: their trees, checked by the kernel. Printed by a program of mine.
-/
import Derived.Test.YtahchcpimanjfaaProg
import Derived.KernelRfl
import Derived.Test.YtahchcpimanjfaaSymZE
import Derived.Test.YtahchcpimanjfaaExt
namespace Go.Proofs.Ytahchcpimanjfaa
open Go.RowKit
def plTypes : List Nat := [7, 8, 22, 23, 27, 28, 34, 35, 52, 53, 54, 55, 57, 58]
theorem plOk : PlainTy Try.prog plTypes := by
  intro t ht
  have := hasN_mem.1 ht
  simp only [plTypes, List.mem_cons, List.not_mem_nil, or_false] at this
  rcases this with rfl | rfl | rfl | rfl | rfl | rfl | rfl | rfl | rfl | rfl | rfl | rfl | rfl | rfl
  · exact ⟨Try.stoodInHeld7, Try.eqGuardType7⟩
  · exact ⟨Try.stoodInHeld8, Try.eqGuardType8⟩
  · exact ⟨Try.stoodInHeld22, Try.eqGuardType22⟩
  · exact ⟨Try.stoodInHeld23, Try.eqGuardType23⟩
  · exact ⟨Try.stoodInHeld27, Try.eqGuardType27⟩
  · exact ⟨Try.stoodInHeld28, Try.eqGuardType28⟩
  · exact ⟨Try.stoodInHeld34, Try.eqGuardType34⟩
  · exact ⟨Try.stoodInHeld35, Try.eqGuardType35⟩
  · exact ⟨Try.stoodInHeld52, Try.eqGuardType52⟩
  · exact ⟨Try.stoodInHeld53, Try.eqGuardType53⟩
  · exact ⟨Try.stoodInHeld54, Try.eqGuardType54⟩
  · exact ⟨Try.stoodInHeld55, Try.eqGuardType55⟩
  · exact ⟨Try.stoodInHeld57, Try.eqGuardType57⟩
  · exact ⟨Try.stoodInHeld58, Try.eqGuardType58⟩
def inFuncs : List Nat := []
theorem insOk : ∀ f, hasN inFuncs f = true → ∀ args w, (callFunc f args).run Try.prog w = .ok (.enter f args) w := by
  intro f hf
  have := hasN_mem.1 hf
  simp [inFuncs] at this
theorem mixedOk : Try.prog.follows .mixedOrders = true := by kernel_rfl
noncomputable def k_bits_Add64 : Known Try.prog := ⟨carryCon 47, add64F, add64_holds Try.func47 (by kernel_rfl) (by kernel_rfl) (by kernel_rfl) (by kernel_rfl)⟩
theorem k_bits_Add64_f : k_bits_Add64.con.f = 47 := rfl
theorem k_bits_Add64_F (l : List Sc) : k_bits_Add64.F l = add64F l := rfl
noncomputable def k_bits_Sub64 : Known Try.prog := ⟨carryCon 48, sub64F, sub64_holds Try.func48 (by kernel_rfl) (by kernel_rfl) (by kernel_rfl) (by kernel_rfl)⟩
theorem k_bits_Sub64_f : k_bits_Sub64.con.f = 48 := rfl
theorem k_bits_Sub64_F (l : List Sc) : k_bits_Sub64.F l = sub64F l := rfl
def tk_tally_value : T (List Ex) :=
 (.ite (.o .le (.i (-1000000)) (.v 0))
 (.leaf [(.o .le (.v 0) (.i 1000000))])
 (.leaf [(.b false)]))
noncomputable def k_tally_value : Known Try.prog := known mixedOk [] (by decide) [] plTypes plOk inFuncs insOk 6 ⟨24, [(.a (.ck (.int .i64)))], (.c (.a (.ck .bool)))⟩ (fun args w => Try.call24 args w) tk_tally_value (by kernel_rfl)
theorem k_tally_value_f : k_tally_value.con.f = 24 := rfl
theorem k_tally_value_F (l : List Sc) : k_tally_value.F l = if l.length = 1 then tk_tally_value.den (gam (P := Try.prog) []) l [] else none := rfl
def tk_tally_joined : T (List Ex) :=
 (.ite (.o .eq (.v 0) (.i 0))
 (.leaf [(.v 5), (.v 6), (.v 7), (.v 8), (.v 9)])
 (.ite (.o .eq (.v 5) (.i 0))
 (.leaf [(.v 0), (.v 1), (.v 2), (.v 3), (.v 4)])
 (.leaf [(.o (.add .i64) (.v 0) (.v 5)), (.o (.add .i64) (.v 1) (.v 6)), (.o (.add .i64) (.v 2) (.v 7)), (.o .min (.v 3) (.v 8)), (.o .max (.v 4) (.v 9))])))
noncomputable def k_tally_joined : Known Try.prog := known mixedOk [] (by decide) [] plTypes plOk inFuncs insOk 6 ⟨25, [(.g [(.ck (.int .i64)), (.ck (.int .i64)), (.ck (.int .i64)), (.ck (.int .i64)), (.ck (.int .i64))]), (.g [(.ck (.int .i64)), (.ck (.int .i64)), (.ck (.int .i64)), (.ck (.int .i64)), (.ck (.int .i64))])], (.c (.g [(.ck (.int .i64)), (.ck (.int .i64)), (.ck (.int .i64)), (.ck (.int .i64)), (.ck (.int .i64))]))⟩ (fun args w => Try.call25 args w) tk_tally_joined (by kernel_rfl)
theorem k_tally_joined_f : k_tally_joined.con.f = 25 := rfl
theorem k_tally_joined_F (l : List Sc) : k_tally_joined.F l = if l.length = 10 then tk_tally_joined.den (gam (P := Try.prog) []) l [] else none := rfl
def tk_simulatorref27_Observation : T (List Ex) :=
 (.ite (.o .le (.i (-1000000)) (.v 0))
 (.leaf [(.o .le (.v 0) (.i 1000000))])
 (.leaf [(.b false)]))
noncomputable def k_simulatorref27_Observation : Known Try.prog := known mixedOk [] (by decide) [] plTypes plOk inFuncs insOk 6 ⟨26, [(.a (.ck (.int .i64)))], (.c (.a (.ck .bool)))⟩ (fun args w => Try.call26 args w) tk_simulatorref27_Observation (by kernel_rfl)
theorem k_simulatorref27_Observation_f : k_simulatorref27_Observation.con.f = 26 := rfl
theorem k_simulatorref27_Observation_F (l : List Sc) : k_simulatorref27_Observation.F l = if l.length = 1 then tk_simulatorref27_Observation.den (gam (P := Try.prog) []) l [] else none := rfl
def tk_simulatorref27_least : T (List Ex) :=
 (.ite (.o .lt (.v 0) (.v 1))
 (.leaf [(.v 0)])
 (.leaf [(.v 1)]))
noncomputable def k_simulatorref27_least : Known Try.prog := known mixedOk [] (by decide) [] plTypes plOk inFuncs insOk 6 ⟨27, [(.a (.ck (.int .i64))), (.a (.ck (.int .i64)))], (.c (.a (.ck (.int .i64))))⟩ (fun args w => Try.call27 args w) tk_simulatorref27_least (by kernel_rfl)
theorem k_simulatorref27_least_f : k_simulatorref27_least.con.f = 27 := rfl
theorem k_simulatorref27_least_F (l : List Sc) : k_simulatorref27_least.F l = if l.length = 2 then tk_simulatorref27_least.den (gam (P := Try.prog) []) l [] else none := rfl
def tk_simulatorref27_most : T (List Ex) :=
 (.ite (.o .lt (.v 1) (.v 0))
 (.leaf [(.v 0)])
 (.leaf [(.v 1)]))
noncomputable def k_simulatorref27_most : Known Try.prog := known mixedOk [] (by decide) [] plTypes plOk inFuncs insOk 6 ⟨28, [(.a (.ck (.int .i64))), (.a (.ck (.int .i64)))], (.c (.a (.ck (.int .i64))))⟩ (fun args w => Try.call28 args w) tk_simulatorref27_most (by kernel_rfl)
theorem k_simulatorref27_most_f : k_simulatorref27_most.con.f = 28 := rfl
theorem k_simulatorref27_most_F (l : List Sc) : k_simulatorref27_most.F l = if l.length = 2 then tk_simulatorref27_most.den (gam (P := Try.prog) []) l [] else none := rfl
def tk_simulatorref02_Size : T (List Ex) :=
 (.ite (.o .lt (.v 0) (.i 0))
 (.leaf [(.o (.add .u64) (.u (.conv .u64) (.o (.sub .i64) (.i 0) (.o (.add .i64) (.v 0) (.i 1)))) (.i 1))])
 (.leaf [(.u (.conv .u64) (.v 0))]))
noncomputable def k_simulatorref02_Size : Known Try.prog := known mixedOk [] (by decide) [] plTypes plOk inFuncs insOk 6 ⟨31, [(.a (.ck (.int .i64)))], (.c (.a (.ck (.int .u64))))⟩ (fun args w => Try.call31 args w) tk_simulatorref02_Size (by kernel_rfl)
theorem k_simulatorref02_Size_f : k_simulatorref02_Size.con.f = 31 := rfl
theorem k_simulatorref02_Size_F (l : List Sc) : k_simulatorref02_Size.F l = if l.length = 1 then tk_simulatorref02_Size.den (gam (P := Try.prog) []) l [] else none := rfl
def tk_frac_size : T (List Ex) :=
 (.ite (.o .lt (.v 0) (.i 0))
 (.leaf [(.o (.sub .u64) (.i 0) (.u (.conv .u64) (.v 0)))])
 (.leaf [(.u (.conv .u64) (.v 0))]))
noncomputable def k_frac_size : Known Try.prog := known mixedOk [] (by decide) [] plTypes plOk inFuncs insOk 6 ⟨35, [(.a (.ck (.int .i64)))], (.c (.a (.ck (.int .u64))))⟩ (fun args w => Try.call35 args w) tk_frac_size (by kernel_rfl)
theorem k_frac_size_f : k_frac_size.con.f = 35 := rfl
theorem k_frac_size_F (l : List Sc) : k_frac_size.F l = if l.length = 1 then tk_frac_size.den (gam (P := Try.prog) []) l [] else none := rfl
def tk_frac_gcd : T (List Ex) :=
 (.loop [(.v 0), (.v 1)]
 (.ite (.o .ne (.v 3) (.i 0))
 (.need (.o .ne (.v 3) (.i 0)) (.next 0 [(.v 3), (.o (.rem .u64) (.v 2) (.v 3))]))
 (.leaf [(.v 2)])))
noncomputable def k_frac_gcd : Known Try.prog := known mixedOk [] (by decide) [⟨3600001, [(0, 0), (1, 0)], [5, 6, 7, 8, 9, 10], [], []⟩] plTypes plOk inFuncs insOk 6 ⟨36, [(.a (.ck (.int .u64))), (.a (.ck (.int .u64)))], (.c (.a (.ck (.int .u64))))⟩ (fun args w => Try.call36 args w) tk_frac_gcd (by kernel_rfl)
theorem k_frac_gcd_f : k_frac_gcd.con.f = 36 := rfl
theorem k_frac_gcd_F (l : List Sc) : k_frac_gcd.F l = if l.length = 2 then tk_frac_gcd.den (gam (P := Try.prog) []) l [] else none := rfl
def tk_frac_made : T (List Ex) :=
 (.ite (.o .lt (.i 4611686018427387904) (.v 1))
 (.leaf [(.i 0), (.i 0), (.b false)])
 (.ite (.o .lt (.i 1000000000000000) (.v 2))
 (.leaf [(.i 0), (.i 0), (.b false)])
 (.ite (.v 0)
 (.leaf [(.o (.sub .i64) (.i 0) (.u (.conv .i64) (.v 1))), (.u (.conv .i64) (.v 2)), (.b true)])
 (.leaf [(.u (.conv .i64) (.v 1)), (.u (.conv .i64) (.v 2)), (.b true)]))))
noncomputable def k_frac_made : Known Try.prog := known mixedOk [] (by decide) [] plTypes plOk inFuncs insOk 6 ⟨37, [(.a (.ck .bool)), (.a (.ck (.int .u64))), (.a (.ck (.int .u64)))], (.t [(.g [(.ck (.int .i64)), (.ck (.int .i64))]), (.a (.ck .bool))])⟩ (fun args w => Try.call37 args w) tk_frac_made (by kernel_rfl)
theorem k_frac_made_f : k_frac_made.con.f = 37 := rfl
theorem k_frac_made_F (l : List Sc) : k_frac_made.F l = if l.length = 3 then tk_frac_made.den (gam (P := Try.prog) []) l [] else none := rfl
def tk_frac_wide_plus : T (List Ex) :=
 (.call 47 [(.v 1), (.v 3), (.i 0)] 2
 (.call 47 [(.v 0), (.v 2), (.v 5)] 2
 (.leaf [(.v 6), (.v 4)])))
noncomputable def k_frac_wide_plus : Known Try.prog := known mixedOk [k_bits_Add64] (by decide) [] plTypes plOk inFuncs insOk 6 ⟨40, [(.g [(.ck (.int .u64)), (.ck (.int .u64))]), (.g [(.ck (.int .u64)), (.ck (.int .u64))])], (.c (.g [(.ck (.int .u64)), (.ck (.int .u64))]))⟩ (fun args w => Try.call40 args w) tk_frac_wide_plus (by kernel_rfl)
theorem k_frac_wide_plus_f : k_frac_wide_plus.con.f = 40 := rfl
theorem k_frac_wide_plus_F (l : List Sc) : k_frac_wide_plus.F l = if l.length = 4 then tk_frac_wide_plus.den (gam (P := Try.prog) [k_bits_Add64]) l [] else none := rfl
def tk_frac_wide_minus : T (List Ex) :=
 (.ite (.o .lt (.v 0) (.v 2))
 (.call 41 [(.v 2), (.v 3), (.v 0), (.v 1)] 3
 (.leaf [(.v 4), (.v 5), (.b true)]))
 (.ite (.o .eq (.v 0) (.v 2))
 (.ite (.o .lt (.v 1) (.v 3))
 (.call 41 [(.v 2), (.v 3), (.v 0), (.v 1)] 3
 (.leaf [(.v 4), (.v 5), (.b true)]))
 (.call 48 [(.v 1), (.v 3), (.i 0)] 2
 (.call 48 [(.v 0), (.v 2), (.v 5)] 2
 (.leaf [(.v 6), (.v 4), (.b false)]))))
 (.call 48 [(.v 1), (.v 3), (.i 0)] 2
 (.call 48 [(.v 0), (.v 2), (.v 5)] 2
 (.leaf [(.v 6), (.v 4), (.b false)])))))
noncomputable def k_frac_wide_minus_rec (n : Nat) : Known Try.prog := (knownRec mixedOk [k_bits_Sub64] ⟨41, [(.g [(.ck (.int .u64)), (.ck (.int .u64))]), (.g [(.ck (.int .u64)), (.ck (.int .u64))])], (.t [(.g [(.ck (.int .u64)), (.ck (.int .u64))]), (.a (.ck .bool))])⟩ (by decide) [] plTypes plOk inFuncs insOk 6 (fun args w => Try.call41 args w) tk_frac_wide_minus (by kernel_rfl) n).1
theorem k_frac_wide_minus_rec_con (n : Nat) : (k_frac_wide_minus_rec n).con = ⟨41, [(.g [(.ck (.int .u64)), (.ck (.int .u64))]), (.g [(.ck (.int .u64)), (.ck (.int .u64))])], (.t [(.g [(.ck (.int .u64)), (.ck (.int .u64))]), (.a (.ck .bool))])⟩ := (knownRec ..).2
theorem k_frac_wide_minus_rec_f (n : Nat) : (k_frac_wide_minus_rec n).con.f = 41 := by rw [k_frac_wide_minus_rec_con]
theorem k_frac_wide_minus_rec_F (n : Nat) (l : List Sc) : (k_frac_wide_minus_rec (n + 1)).F l = if l.length = 4 then tk_frac_wide_minus.den (gam (P := Try.prog) (k_frac_wide_minus_rec n :: [k_bits_Sub64])) l [] else none := rfl
noncomputable def k_frac_wide_minus : Known Try.prog := ⟨⟨41, [(.g [(.ck (.int .u64)), (.ck (.int .u64))]), (.g [(.ck (.int .u64)), (.ck (.int .u64))])], (.t [(.g [(.ck (.int .u64)), (.ck (.int .u64))]), (.a (.ck .bool))])⟩, (k_frac_wide_minus_rec rounds).F, by rw [← k_frac_wide_minus_rec_con rounds]; exact (k_frac_wide_minus_rec rounds).holds⟩
theorem k_frac_wide_minus_f : k_frac_wide_minus.con.f = 41 := rfl
theorem k_frac_wide_minus_F (l : List Sc) : k_frac_wide_minus.F l = (k_frac_wide_minus_rec rounds).F l := rfl
def tk_bits_Mul64 : T (List Ex) :=
 (.leaf [(.o (.add .u64) (.o (.add .u64) (.o (.mul .u64) (.o (.shr .u64) (.v 0) (.i 32)) (.o (.shr .u64) (.v 1) (.i 32))) (.o (.shr .u64) (.o (.add .u64) (.o (.mul .u64) (.o (.shr .u64) (.v 0) (.i 32)) (.o (.band .u64) (.v 1) (.i 4294967295))) (.o (.shr .u64) (.o (.mul .u64) (.o (.band .u64) (.v 0) (.i 4294967295)) (.o (.band .u64) (.v 1) (.i 4294967295))) (.i 32))) (.i 32))) (.o (.shr .u64) (.o (.add .u64) (.o (.band .u64) (.o (.add .u64) (.o (.mul .u64) (.o (.shr .u64) (.v 0) (.i 32)) (.o (.band .u64) (.v 1) (.i 4294967295))) (.o (.shr .u64) (.o (.mul .u64) (.o (.band .u64) (.v 0) (.i 4294967295)) (.o (.band .u64) (.v 1) (.i 4294967295))) (.i 32))) (.i 4294967295)) (.o (.mul .u64) (.o (.band .u64) (.v 0) (.i 4294967295)) (.o (.shr .u64) (.v 1) (.i 32)))) (.i 32))), (.o (.mul .u64) (.v 0) (.v 1))])
noncomputable def k_bits_Mul64 : Known Try.prog := known mixedOk [] (by decide) [] plTypes plOk inFuncs insOk 6 ⟨42, [(.a (.ck (.int .u64))), (.a (.ck (.int .u64)))], (.t [(.a (.ck (.int .u64))), (.a (.ck (.int .u64)))])⟩ (fun args w => Try.call42 args w) tk_bits_Mul64 (by kernel_rfl)
theorem k_bits_Mul64_f : k_bits_Mul64.con.f = 42 := rfl
theorem k_bits_Mul64_F (l : List Sc) : k_bits_Mul64.F l = if l.length = 2 then tk_bits_Mul64.den (gam (P := Try.prog) []) l [] else none := rfl
def tk_simulatorref02_Plus : T (List Ex) :=
 (.ite (.o .lt (.o (.add .u64) (.v 1) (.v 3)) (.v 1))
 (.leaf [(.o (.add .u64) (.o (.add .u64) (.v 0) (.v 2)) (.i 1)), (.o (.add .u64) (.v 1) (.v 3))])
 (.leaf [(.o (.add .u64) (.v 0) (.v 2)), (.o (.add .u64) (.v 1) (.v 3))]))
noncomputable def k_simulatorref02_Plus : Known Try.prog := known mixedOk [] (by decide) [] plTypes plOk inFuncs insOk 6 ⟨43, [(.g [(.ck (.int .u64)), (.ck (.int .u64))]), (.g [(.ck (.int .u64)), (.ck (.int .u64))])], (.c (.g [(.ck (.int .u64)), (.ck (.int .u64))]))⟩ (fun args w => Try.call43 args w) tk_simulatorref02_Plus (by kernel_rfl)
theorem k_simulatorref02_Plus_f : k_simulatorref02_Plus.con.f = 43 := rfl
theorem k_simulatorref02_Plus_F (l : List Sc) : k_simulatorref02_Plus.F l = if l.length = 4 then tk_simulatorref02_Plus.den (gam (P := Try.prog) []) l [] else none := rfl
def tk_simulatorref02_bit : T (List Ex) :=
 (.ite (.o .le (.i 64) (.v 2))
 (.need (.o .le (.i 0) (.u (.conv .u64) (.o (.sub .i64) (.v 2) (.i 64)))) (.leaf [(.o (.rem .u64) (.o (.shr .u64) (.v 0) (.u (.conv .u64) (.o (.sub .i64) (.v 2) (.i 64)))) (.i 2))]))
 (.need (.o .le (.i 0) (.u (.conv .u64) (.v 2))) (.leaf [(.o (.rem .u64) (.o (.shr .u64) (.v 1) (.u (.conv .u64) (.v 2))) (.i 2))])))
noncomputable def k_simulatorref02_bit : Known Try.prog := known mixedOk [] (by decide) [] plTypes plOk inFuncs insOk 6 ⟨44, [(.g [(.ck (.int .u64)), (.ck (.int .u64))]), (.a (.ck (.int .i64)))], (.c (.a (.ck (.int .u64))))⟩ (fun args w => Try.call44 args w) tk_simulatorref02_bit (by kernel_rfl)
theorem k_simulatorref02_bit_f : k_simulatorref02_bit.con.f = 44 := rfl
theorem k_simulatorref02_bit_F (l : List Sc) : k_simulatorref02_bit.F l = if l.length = 3 then tk_simulatorref02_bit.den (gam (P := Try.prog) []) l [] else none := rfl
def tk_simulatorref02_Less : T (List Ex) :=
 (.ite (.o .lt (.v 0) (.v 2))
 (.leaf [(.b true)])
 (.ite (.o .eq (.v 0) (.v 2))
 (.leaf [(.o .lt (.v 1) (.v 3))])
 (.leaf [(.b false)])))
noncomputable def k_simulatorref02_Less : Known Try.prog := known mixedOk [] (by decide) [] plTypes plOk inFuncs insOk 6 ⟨45, [(.g [(.ck (.int .u64)), (.ck (.int .u64))]), (.g [(.ck (.int .u64)), (.ck (.int .u64))])], (.c (.a (.ck .bool)))⟩ (fun args w => Try.call45 args w) tk_simulatorref02_Less (by kernel_rfl)
theorem k_simulatorref02_Less_f : k_simulatorref02_Less.con.f = 45 := rfl
theorem k_simulatorref02_Less_F (l : List Sc) : k_simulatorref02_Less.F l = if l.length = 4 then tk_simulatorref02_Less.den (gam (P := Try.prog) []) l [] else none := rfl
def tk_simulatorref02_Minus : T (List Ex) :=
 (.ite (.o .lt (.v 1) (.v 3))
 (.leaf [(.o (.sub .u64) (.o (.sub .u64) (.v 0) (.v 2)) (.i 1)), (.o (.sub .u64) (.v 1) (.v 3))])
 (.leaf [(.o (.sub .u64) (.v 0) (.v 2)), (.o (.sub .u64) (.v 1) (.v 3))]))
noncomputable def k_simulatorref02_Minus : Known Try.prog := known mixedOk [] (by decide) [] plTypes plOk inFuncs insOk 6 ⟨46, [(.g [(.ck (.int .u64)), (.ck (.int .u64))]), (.g [(.ck (.int .u64)), (.ck (.int .u64))])], (.c (.g [(.ck (.int .u64)), (.ck (.int .u64))]))⟩ (fun args w => Try.call46 args w) tk_simulatorref02_Minus (by kernel_rfl)
theorem k_simulatorref02_Minus_f : k_simulatorref02_Minus.con.f = 46 := rfl
theorem k_simulatorref02_Minus_F (l : List Sc) : k_simulatorref02_Minus.F l = if l.length = 4 then tk_simulatorref02_Minus.den (gam (P := Try.prog) []) l [] else none := rfl
def tk_tally_Check : T (List Ex) :=
 (.ite (.o .and (.o .eq (.v 0) (.i 0)) (.o .and (.o .eq (.v 1) (.i 0)) (.o .and (.o .eq (.v 2) (.i 0)) (.o .and (.o .eq (.v 3) (.i 0)) (.o .and (.o .eq (.v 4) (.i 0)) (.b true))))))
 (.leaf [(.i 0)])
 (.ite (.o .lt (.v 0) (.i 1))
 (.leaf [(.i 2)])
 (.ite (.o .lt (.i 2000) (.v 0))
 (.leaf [(.i 2)])
 (.call 24 [(.v 3)] 1
 (.ite (.u .not (.v 5))
 (.leaf [(.i 2)])
 (.call 24 [(.v 4)] 1
 (.ite (.u .not (.v 6))
 (.leaf [(.i 2)])
 (.ite (.o .lt (.v 4) (.v 3))
 (.leaf [(.i 2)])
 (.ite (.o .eq (.v 0) (.i 1))
 (.ite (.o .lt (.v 1) (.o (.mul .i64) (.v 0) (.v 3)))
 (.leaf [(.i 8)])
 (.ite (.o .lt (.o (.mul .i64) (.v 0) (.v 4)) (.v 1))
 (.ite (.o .lt (.o (.mul .i64) (.v 0) (.v 4)) (.v 1))
 (.leaf [(.i 8)])
 (.ite (.o .lt (.v 2) (.o (.mul .i64) (.v 4) (.v 4)))
 (.leaf [(.i 8)])
 (.ite (.o .lt (.o (.mul .i64) (.v 0) (.o .max (.o (.mul .i64) (.v 3) (.v 3)) (.o (.mul .i64) (.v 4) (.v 4)))) (.v 2))
 (.ite (.o .lt (.o (.mul .i64) (.v 0) (.o .max (.o (.mul .i64) (.v 3) (.v 3)) (.o (.mul .i64) (.v 4) (.v 4)))) (.v 2))
 (.leaf [(.i 8)])
 (.leaf [(.i 0)]))
 (.ite (.o .lt (.o (.mul .i64) (.v 0) (.v 2)) (.o (.mul .i64) (.v 1) (.v 1)))
 (.leaf [(.i 8)])
 (.leaf [(.i 0)])))))
 (.ite (.o .eq (.v 0) (.i 1))
 (.ite (.o .ne (.v 3) (.v 4))
 (.leaf [(.i 8)])
 (.ite (.o .lt (.v 2) (.o (.mul .i64) (.v 4) (.v 4)))
 (.leaf [(.i 8)])
 (.ite (.o .lt (.o (.mul .i64) (.v 0) (.o .max (.o (.mul .i64) (.v 3) (.v 3)) (.o (.mul .i64) (.v 4) (.v 4)))) (.v 2))
 (.ite (.o .lt (.o (.mul .i64) (.v 0) (.o .max (.o (.mul .i64) (.v 3) (.v 3)) (.o (.mul .i64) (.v 4) (.v 4)))) (.v 2))
 (.leaf [(.i 8)])
 (.leaf [(.i 0)]))
 (.ite (.o .lt (.o (.mul .i64) (.v 0) (.v 2)) (.o (.mul .i64) (.v 1) (.v 1)))
 (.leaf [(.i 8)])
 (.leaf [(.i 0)])))))
 (.ite (.o .lt (.v 2) (.o (.mul .i64) (.v 4) (.v 4)))
 (.leaf [(.i 8)])
 (.ite (.o .lt (.o (.mul .i64) (.v 0) (.o .max (.o (.mul .i64) (.v 3) (.v 3)) (.o (.mul .i64) (.v 4) (.v 4)))) (.v 2))
 (.ite (.o .lt (.o (.mul .i64) (.v 0) (.o .max (.o (.mul .i64) (.v 3) (.v 3)) (.o (.mul .i64) (.v 4) (.v 4)))) (.v 2))
 (.leaf [(.i 8)])
 (.leaf [(.i 0)]))
 (.ite (.o .lt (.o (.mul .i64) (.v 0) (.v 2)) (.o (.mul .i64) (.v 1) (.v 1)))
 (.leaf [(.i 8)])
 (.leaf [(.i 0)])))))))
 (.ite (.o .lt (.v 1) (.o (.mul .i64) (.v 0) (.v 3)))
 (.leaf [(.i 8)])
 (.ite (.o .lt (.o (.mul .i64) (.v 0) (.v 4)) (.v 1))
 (.ite (.o .lt (.o (.mul .i64) (.v 0) (.v 4)) (.v 1))
 (.leaf [(.i 8)])
 (.ite (.o .lt (.v 2) (.o (.add .i64) (.o (.mul .i64) (.v 3) (.v 3)) (.o (.mul .i64) (.v 4) (.v 4))))
 (.leaf [(.i 8)])
 (.ite (.o .lt (.o (.mul .i64) (.v 0) (.o .max (.o (.mul .i64) (.v 3) (.v 3)) (.o (.mul .i64) (.v 4) (.v 4)))) (.v 2))
 (.ite (.o .lt (.o (.mul .i64) (.v 0) (.o .max (.o (.mul .i64) (.v 3) (.v 3)) (.o (.mul .i64) (.v 4) (.v 4)))) (.v 2))
 (.leaf [(.i 8)])
 (.leaf [(.i 0)]))
 (.ite (.o .lt (.o (.mul .i64) (.v 0) (.v 2)) (.o (.mul .i64) (.v 1) (.v 1)))
 (.leaf [(.i 8)])
 (.leaf [(.i 0)])))))
 (.ite (.o .eq (.v 0) (.i 1))
 (.ite (.o .ne (.v 3) (.v 4))
 (.leaf [(.i 8)])
 (.ite (.o .lt (.v 2) (.o (.add .i64) (.o (.mul .i64) (.v 3) (.v 3)) (.o (.mul .i64) (.v 4) (.v 4))))
 (.leaf [(.i 8)])
 (.ite (.o .lt (.o (.mul .i64) (.v 0) (.o .max (.o (.mul .i64) (.v 3) (.v 3)) (.o (.mul .i64) (.v 4) (.v 4)))) (.v 2))
 (.ite (.o .lt (.o (.mul .i64) (.v 0) (.o .max (.o (.mul .i64) (.v 3) (.v 3)) (.o (.mul .i64) (.v 4) (.v 4)))) (.v 2))
 (.leaf [(.i 8)])
 (.leaf [(.i 0)]))
 (.ite (.o .lt (.o (.mul .i64) (.v 0) (.v 2)) (.o (.mul .i64) (.v 1) (.v 1)))
 (.leaf [(.i 8)])
 (.leaf [(.i 0)])))))
 (.ite (.o .lt (.v 2) (.o (.add .i64) (.o (.mul .i64) (.v 3) (.v 3)) (.o (.mul .i64) (.v 4) (.v 4))))
 (.leaf [(.i 8)])
 (.ite (.o .lt (.o (.mul .i64) (.v 0) (.o .max (.o (.mul .i64) (.v 3) (.v 3)) (.o (.mul .i64) (.v 4) (.v 4)))) (.v 2))
 (.ite (.o .lt (.o (.mul .i64) (.v 0) (.o .max (.o (.mul .i64) (.v 3) (.v 3)) (.o (.mul .i64) (.v 4) (.v 4)))) (.v 2))
 (.leaf [(.i 8)])
 (.leaf [(.i 0)]))
 (.ite (.o .lt (.o (.mul .i64) (.v 0) (.v 2)) (.o (.mul .i64) (.v 1) (.v 1)))
 (.leaf [(.i 8)])
 (.leaf [(.i 0)]))))))))))))))))
noncomputable def k_tally_Check : Known Try.prog := known mixedOk [k_tally_value] (by decide) [] plTypes plOk inFuncs insOk 6 ⟨15, [(.g [(.ck (.int .i64)), (.ck (.int .i64)), (.ck (.int .i64)), (.ck (.int .i64)), (.ck (.int .i64))])], (.c (.a (.ck (.int .i64))))⟩ (fun args w => Try.call15 args w) tk_tally_Check (by kernel_rfl)
theorem k_tally_Check_f : k_tally_Check.con.f = 15 := rfl
theorem k_tally_Check_F (l : List Sc) : k_tally_Check.F l = if l.length = 5 then tk_tally_Check.den (gam (P := Try.prog) [k_tally_value]) l [] else none := rfl
def tk_simulatorref27_Check : T (List Ex) :=
 (.ite (.o .and (.o .eq (.v 0) (.i 0)) (.o .and (.o .eq (.v 1) (.i 0)) (.o .and (.o .eq (.v 2) (.i 0)) (.o .and (.o .eq (.v 3) (.i 0)) (.o .and (.o .eq (.v 4) (.i 0)) (.b true))))))
 (.leaf [(.i 0)])
 (.ite (.o .lt (.v 0) (.i 1))
 (.leaf [(.i 2)])
 (.ite (.o .lt (.i 2000) (.v 0))
 (.leaf [(.i 2)])
 (.call 26 [(.v 3)] 1
 (.ite (.u .not (.v 5))
 (.leaf [(.i 2)])
 (.call 26 [(.v 4)] 1
 (.ite (.u .not (.v 6))
 (.leaf [(.i 2)])
 (.ite (.o .lt (.v 4) (.v 3))
 (.leaf [(.i 2)])
 (.ite (.o .lt (.v 1) (.o (.mul .i64) (.v 0) (.v 3)))
 (.leaf [(.i 8)])
 (.ite (.o .lt (.o (.mul .i64) (.v 0) (.v 4)) (.v 1))
 (.leaf [(.i 8)])
 (.ite (.o .lt (.v 2) (.i 0))
 (.leaf [(.i 8)])
 (.call 28 [(.o (.mul .i64) (.v 3) (.v 3)), (.o (.mul .i64) (.v 4) (.v 4))] 1
 (.ite (.o .lt (.o (.mul .i64) (.v 0) (.v 7)) (.v 2))
 (.leaf [(.i 8)])
 (.ite (.o .lt (.o (.mul .i64) (.v 0) (.v 2)) (.o (.mul .i64) (.v 1) (.v 1)))
 (.leaf [(.i 8)])
 (.ite (.o .eq (.v 0) (.i 1))
 (.ite (.o .ne (.v 3) (.v 4))
 (.leaf [(.i 8)])
 (.ite (.o .lt (.i 1) (.v 0))
 (.ite (.o .lt (.v 2) (.o (.add .i64) (.o (.mul .i64) (.v 3) (.v 3)) (.o (.mul .i64) (.v 4) (.v 4))))
 (.leaf [(.i 8)])
 (.leaf [(.i 0)]))
 (.leaf [(.i 0)])))
 (.ite (.o .lt (.i 1) (.v 0))
 (.ite (.o .lt (.v 2) (.o (.add .i64) (.o (.mul .i64) (.v 3) (.v 3)) (.o (.mul .i64) (.v 4) (.v 4))))
 (.leaf [(.i 8)])
 (.leaf [(.i 0)]))
 (.leaf [(.i 0)])))))))))))))))))
noncomputable def k_simulatorref27_Check : Known Try.prog := known mixedOk [k_simulatorref27_Observation, k_simulatorref27_most] (by decide) [] plTypes plOk inFuncs insOk 6 ⟨16, [(.g [(.ck (.int .i64)), (.ck (.int .i64)), (.ck (.int .i64)), (.ck (.int .i64)), (.ck (.int .i64))])], (.c (.a (.ck (.int .i64))))⟩ (fun args w => Try.call16 args w) tk_simulatorref27_Check (by kernel_rfl)
theorem k_simulatorref27_Check_f : k_simulatorref27_Check.con.f = 16 := rfl
theorem k_simulatorref27_Check_F (l : List Sc) : k_simulatorref27_Check.F l = if l.length = 5 then tk_simulatorref27_Check.den (gam (P := Try.prog) [k_simulatorref27_Observation, k_simulatorref27_most]) l [] else none := rfl
def tk_tally_Merge : T (List Ex) :=
 (.call 15 [(.v 0), (.v 1), (.v 2), (.v 3), (.v 4)] 1
 (.ite (.o .ne (.v 10) (.i 0))
 (.leaf [(.i 0), (.i 0), (.i 0), (.i 0), (.i 0), (.v 10)])
 (.call 15 [(.v 5), (.v 6), (.v 7), (.v 8), (.v 9)] 1
 (.ite (.o .ne (.v 11) (.i 0))
 (.leaf [(.i 0), (.i 0), (.i 0), (.i 0), (.i 0), (.v 11)])
 (.ite (.o .lt (.i 2000) (.o (.add .i64) (.v 0) (.v 5)))
 (.leaf [(.i 0), (.i 0), (.i 0), (.i 0), (.i 0), (.i 13)])
 (.call 25 [(.v 0), (.v 1), (.v 2), (.v 3), (.v 4), (.v 5), (.v 6), (.v 7), (.v 8), (.v 9)] 5
 (.leaf [(.v 12), (.v 13), (.v 14), (.v 15), (.v 16), (.i 0)])))))))
noncomputable def k_tally_Merge : Known Try.prog := known mixedOk [k_tally_Check, k_tally_joined] (by decide) [] plTypes plOk inFuncs insOk 6 ⟨20, [(.g [(.ck (.int .i64)), (.ck (.int .i64)), (.ck (.int .i64)), (.ck (.int .i64)), (.ck (.int .i64))]), (.g [(.ck (.int .i64)), (.ck (.int .i64)), (.ck (.int .i64)), (.ck (.int .i64)), (.ck (.int .i64))])], (.t [(.g [(.ck (.int .i64)), (.ck (.int .i64)), (.ck (.int .i64)), (.ck (.int .i64)), (.ck (.int .i64))]), (.a (.ck (.int .i64)))])⟩ (fun args w => Try.call20 args w) tk_tally_Merge (by kernel_rfl)
theorem k_tally_Merge_f : k_tally_Merge.con.f = 20 := rfl
theorem k_tally_Merge_F (l : List Sc) : k_tally_Merge.F l = if l.length = 10 then tk_tally_Merge.den (gam (P := Try.prog) [k_tally_Check, k_tally_joined]) l [] else none := rfl
def tk_simulatorref27_Merge : T (List Ex) :=
 (.call 16 [(.v 0), (.v 1), (.v 2), (.v 3), (.v 4)] 1
 (.ite (.o .eq (.v 10) (.i 0))
 (.call 16 [(.v 5), (.v 6), (.v 7), (.v 8), (.v 9)] 1
 (.ite (.o .ne (.v 11) (.i 0))
 (.leaf [(.i 0), (.i 0), (.i 0), (.i 0), (.i 0), (.v 11)])
 (.ite (.o .lt (.i 2000) (.o (.add .i64) (.v 0) (.v 5)))
 (.leaf [(.i 0), (.i 0), (.i 0), (.i 0), (.i 0), (.i 13)])
 (.ite (.o .eq (.v 0) (.i 0))
 (.leaf [(.v 5), (.v 6), (.v 7), (.v 8), (.v 9), (.i 0)])
 (.ite (.o .eq (.v 5) (.i 0))
 (.leaf [(.v 0), (.v 1), (.v 2), (.v 3), (.v 4), (.i 0)])
 (.call 27 [(.v 3), (.v 8)] 1
 (.call 28 [(.v 4), (.v 9)] 1
 (.leaf [(.o (.add .i64) (.v 0) (.v 5)), (.o (.add .i64) (.v 1) (.v 6)), (.o (.add .i64) (.v 2) (.v 7)), (.v 12), (.v 13), (.i 0)]))))))))
 (.ite (.o .ne (.v 10) (.i 0))
 (.leaf [(.i 0), (.i 0), (.i 0), (.i 0), (.i 0), (.v 10)])
 (.ite (.o .lt (.i 2000) (.o (.add .i64) (.v 0) (.v 5)))
 (.leaf [(.i 0), (.i 0), (.i 0), (.i 0), (.i 0), (.i 13)])
 (.ite (.o .eq (.v 0) (.i 0))
 (.leaf [(.v 5), (.v 6), (.v 7), (.v 8), (.v 9), (.i 0)])
 (.ite (.o .eq (.v 5) (.i 0))
 (.leaf [(.v 0), (.v 1), (.v 2), (.v 3), (.v 4), (.i 0)])
 (.call 27 [(.v 3), (.v 8)] 1
 (.call 28 [(.v 4), (.v 9)] 1
 (.leaf [(.o (.add .i64) (.v 0) (.v 5)), (.o (.add .i64) (.v 1) (.v 6)), (.o (.add .i64) (.v 2) (.v 7)), (.v 11), (.v 12), (.i 0)])))))))))
noncomputable def k_simulatorref27_Merge : Known Try.prog := known mixedOk [k_simulatorref27_Check, k_simulatorref27_least, k_simulatorref27_most] (by decide) [] plTypes plOk inFuncs insOk 6 ⟨21, [(.g [(.ck (.int .i64)), (.ck (.int .i64)), (.ck (.int .i64)), (.ck (.int .i64)), (.ck (.int .i64))]), (.g [(.ck (.int .i64)), (.ck (.int .i64)), (.ck (.int .i64)), (.ck (.int .i64)), (.ck (.int .i64))])], (.t [(.g [(.ck (.int .i64)), (.ck (.int .i64)), (.ck (.int .i64)), (.ck (.int .i64)), (.ck (.int .i64))]), (.a (.ck (.int .i64)))])⟩ (fun args w => Try.call21 args w) tk_simulatorref27_Merge (by kernel_rfl)
theorem k_simulatorref27_Merge_f : k_simulatorref27_Merge.con.f = 21 := rfl
theorem k_simulatorref27_Merge_F (l : List Sc) : k_simulatorref27_Merge.F l = if l.length = 10 then tk_simulatorref27_Merge.den (gam (P := Try.prog) [k_simulatorref27_Check, k_simulatorref27_least, k_simulatorref27_most]) l [] else none := rfl
def tk_frac_Of : T (List Ex) :=
 (.ite (.o .eq (.v 1) (.i 0))
 (.leaf [(.i 0), (.i 0), (.b false)])
 (.call 35 [(.v 0)] 1
 (.call 35 [(.v 1)] 1
 (.call 36 [(.v 2), (.v 3)] 1
 (.call 35 [(.v 0)] 1
 (.need (.o .ne (.v 4) (.i 0)) (.call 35 [(.v 1)] 1
 (.need (.o .ne (.v 4) (.i 0)) (.call 37 [(.u .not (.o .beq (.o .lt (.v 0) (.i 0)) (.o .lt (.v 1) (.i 0)))), (.o (.quo .u64) (.v 5) (.v 4)), (.o (.quo .u64) (.v 6) (.v 4))] 3
 (.leaf [(.v 7), (.v 8), (.v 9)]))))))))))
noncomputable def k_frac_Of : Known Try.prog := known mixedOk [k_frac_size, k_frac_gcd, k_frac_made] (by decide) [] plTypes plOk inFuncs insOk 6 ⟨29, [(.a (.ck (.int .i64))), (.a (.ck (.int .i64)))], (.t [(.g [(.ck (.int .i64)), (.ck (.int .i64))]), (.a (.ck .bool))])⟩ (fun args w => Try.call29 args w) tk_frac_Of (by kernel_rfl)
theorem k_frac_Of_f : k_frac_Of.con.f = 29 := rfl
theorem k_frac_Of_F (l : List Sc) : k_frac_Of.F l = if l.length = 2 then tk_frac_Of.den (gam (P := Try.prog) [k_frac_size, k_frac_gcd, k_frac_made]) l [] else none := rfl
def tk_frac_Valid : T (List Ex) :=
 (.ite (.o .le (.i 1) (.v 1))
 (.ite (.o .le (.v 1) (.i 1000000000000000))
 (.call 35 [(.v 0)] 1
 (.ite (.o .le (.v 2) (.i 4611686018427387904))
 (.call 35 [(.v 0)] 1
 (.call 36 [(.v 3), (.u (.conv .u64) (.v 1))] 1
 (.leaf [(.o .eq (.v 4) (.i 1))])))
 (.leaf [(.b false)])))
 (.leaf [(.b false)]))
 (.leaf [(.b false)]))
noncomputable def k_frac_Valid : Known Try.prog := known mixedOk [k_frac_size, k_frac_gcd] (by decide) [] plTypes plOk inFuncs insOk 6 ⟨32, [(.g [(.ck (.int .i64)), (.ck (.int .i64))])], (.c (.a (.ck .bool)))⟩ (fun args w => Try.call32 args w) tk_frac_Valid (by kernel_rfl)
theorem k_frac_Valid_f : k_frac_Valid.con.f = 32 := rfl
theorem k_frac_Valid_F (l : List Sc) : k_frac_Valid.F l = if l.length = 2 then tk_frac_Valid.den (gam (P := Try.prog) [k_frac_size, k_frac_gcd]) l [] else none := rfl
def tk_frac_signed : T (List Ex) :=
 (.ite (.o .beq (.v 0) (.v 3))
 (.call 40 [(.v 1), (.v 2), (.v 4), (.v 5)] 2
 (.leaf [(.v 0), (.v 6), (.v 7)]))
 (.call 41 [(.v 1), (.v 2), (.v 4), (.v 5)] 3
 (.leaf [(.u .not (.o .beq (.v 0) (.v 8))), (.v 6), (.v 7)])))
noncomputable def k_frac_signed : Known Try.prog := known mixedOk [k_frac_wide_plus, k_frac_wide_minus] (by decide) [] plTypes plOk inFuncs insOk 6 ⟨33, [(.a (.ck .bool)), (.g [(.ck (.int .u64)), (.ck (.int .u64))]), (.a (.ck .bool)), (.g [(.ck (.int .u64)), (.ck (.int .u64))])], (.t [(.a (.ck .bool)), (.g [(.ck (.int .u64)), (.ck (.int .u64))])])⟩ (fun args w => Try.call33 args w) tk_frac_signed (by kernel_rfl)
theorem k_frac_signed_f : k_frac_signed.con.f = 33 := rfl
theorem k_frac_signed_F (l : List Sc) : k_frac_signed.F l = if l.length = 6 then tk_frac_signed.den (gam (P := Try.prog) [k_frac_wide_plus, k_frac_wide_minus]) l [] else none := rfl
def tk_frac_times : T (List Ex) :=
 (.call 42 [(.v 0), (.v 1)] 2
 (.leaf [(.v 2), (.v 3)]))
noncomputable def k_frac_times : Known Try.prog := known mixedOk [k_bits_Mul64] (by decide) [] plTypes plOk inFuncs insOk 6 ⟨34, [(.a (.ck (.int .u64))), (.a (.ck (.int .u64)))], (.c (.g [(.ck (.int .u64)), (.ck (.int .u64))]))⟩ (fun args w => Try.call34 args w) tk_frac_times (by kernel_rfl)
theorem k_frac_times_f : k_frac_times.con.f = 34 := rfl
theorem k_frac_times_F (l : List Sc) : k_frac_times.F l = if l.length = 2 then tk_frac_times.den (gam (P := Try.prog) [k_bits_Mul64]) l [] else none := rfl
def tk_simulatorref02_Divide : T (List Ex) :=
 (.loop [(.i 127), (.i 0), (.i 0), (.i 0), (.i 0)]
 (.ite (.o .le (.i 0) (.v 4))
 (.call 43 [(.v 5), (.v 6), (.v 5), (.v 6)] 2
 (.call 43 [(.v 7), (.v 8), (.v 7), (.v 8)] 2
 (.call 44 [(.v 0), (.v 1), (.v 4)] 1
 (.call 43 [(.v 11), (.v 12), (.i 0), (.v 13)] 2
 (.call 45 [(.v 14), (.v 15), (.v 2), (.v 3)] 1
 (.ite (.u .not (.v 16))
 (.call 46 [(.v 14), (.v 15), (.v 2), (.v 3)] 2
 (.next 0 [(.o (.sub .i64) (.v 4) (.i 1)), (.v 9), (.o (.add .u64) (.v 10) (.i 1)), (.v 17), (.v 18)]))
 (.next 0 [(.o (.sub .i64) (.v 4) (.i 1)), (.v 9), (.v 10), (.v 14), (.v 15)])))))))
 (.leaf [(.v 5), (.v 6), (.v 7), (.v 8)])))
noncomputable def k_simulatorref02_Divide : Known Try.prog := known mixedOk [k_simulatorref02_Plus, k_simulatorref02_bit, k_simulatorref02_Less, k_simulatorref02_Minus] (by decide) [⟨3900003, [(8, 0)], [11, 12, 15, 16, 17, 18, 19, 20, 21, 22, 23, 24, 25, 26, 27, 28, 29, 30, 31, 32, 33, 34, 35, 36, 13, 14], [(4, (0, 0)), (4, (1, 0)), (5, (0, 0)), (5, (1, 0))], []⟩] plTypes plOk inFuncs insOk 6 ⟨39, [(.g [(.ck (.int .u64)), (.ck (.int .u64))]), (.g [(.ck (.int .u64)), (.ck (.int .u64))])], (.t [(.g [(.ck (.int .u64)), (.ck (.int .u64))]), (.g [(.ck (.int .u64)), (.ck (.int .u64))])])⟩ (fun args w => Try.call39 args w) tk_simulatorref02_Divide (by kernel_rfl)
theorem k_simulatorref02_Divide_f : k_simulatorref02_Divide.con.f = 39 := rfl
theorem k_simulatorref02_Divide_F (l : List Sc) : k_simulatorref02_Divide.F l = if l.length = 4 then tk_simulatorref02_Divide.den (gam (P := Try.prog) [k_simulatorref02_Plus, k_simulatorref02_bit, k_simulatorref02_Less, k_simulatorref02_Minus]) l [] else none := rfl
def tk_tally_Add : T (List Ex) :=
 (.call 15 [(.v 0), (.v 1), (.v 2), (.v 3), (.v 4)] 1
 (.ite (.o .ne (.v 6) (.i 0))
 (.leaf [(.i 0), (.i 0), (.i 0), (.i 0), (.i 0), (.v 6)])
 (.call 24 [(.v 5)] 1
 (.ite (.u .not (.v 7))
 (.leaf [(.i 0), (.i 0), (.i 0), (.i 0), (.i 0), (.i 2)])
 (.ite (.o .le (.i 2000) (.v 0))
 (.leaf [(.i 0), (.i 0), (.i 0), (.i 0), (.i 0), (.i 13)])
 (.call 25 [(.v 0), (.v 1), (.v 2), (.v 3), (.v 4), (.i 1), (.v 5), (.o (.mul .i64) (.v 5) (.v 5)), (.v 5), (.v 5)] 5
 (.leaf [(.v 8), (.v 9), (.v 10), (.v 11), (.v 12), (.i 0)])))))))
noncomputable def k_tally_Add : Known Try.prog := known mixedOk [k_tally_Check, k_tally_value, k_tally_joined] (by decide) [] plTypes plOk inFuncs insOk 6 ⟨9, [(.g [(.ck (.int .i64)), (.ck (.int .i64)), (.ck (.int .i64)), (.ck (.int .i64)), (.ck (.int .i64))]), (.a (.ck (.int .i64)))], (.t [(.g [(.ck (.int .i64)), (.ck (.int .i64)), (.ck (.int .i64)), (.ck (.int .i64)), (.ck (.int .i64))]), (.a (.ck (.int .i64)))])⟩ (fun args w => Try.call9 args w) tk_tally_Add (by kernel_rfl)
theorem k_tally_Add_f : k_tally_Add.con.f = 9 := rfl
theorem k_tally_Add_F (l : List Sc) : k_tally_Add.F l = if l.length = 6 then tk_tally_Add.den (gam (P := Try.prog) [k_tally_Check, k_tally_value, k_tally_joined]) l [] else none := rfl
def tk_simulatorref27_Add : T (List Ex) :=
 (.call 16 [(.v 0), (.v 1), (.v 2), (.v 3), (.v 4)] 1
 (.ite (.o .ne (.v 6) (.i 0))
 (.leaf [(.i 0), (.i 0), (.i 0), (.i 0), (.i 0), (.v 6)])
 (.call 26 [(.v 5)] 1
 (.ite (.u .not (.v 7))
 (.leaf [(.i 0), (.i 0), (.i 0), (.i 0), (.i 0), (.i 2)])
 (.ite (.o .eq (.v 0) (.i 2000))
 (.leaf [(.i 0), (.i 0), (.i 0), (.i 0), (.i 0), (.i 13)])
 (.ite (.o .eq (.v 0) (.i 0))
 (.leaf [(.i 1), (.v 5), (.o (.mul .i64) (.v 5) (.v 5)), (.v 5), (.v 5), (.i 0)])
 (.call 27 [(.v 3), (.v 5)] 1
 (.call 28 [(.v 4), (.v 5)] 1
 (.leaf [(.o (.add .i64) (.v 0) (.i 1)), (.o (.add .i64) (.v 1) (.v 5)), (.o (.add .i64) (.v 2) (.o (.mul .i64) (.v 5) (.v 5))), (.v 8), (.v 9), (.i 0)])))))))))
noncomputable def k_simulatorref27_Add : Known Try.prog := known mixedOk [k_simulatorref27_Check, k_simulatorref27_Observation, k_simulatorref27_least, k_simulatorref27_most] (by decide) [] plTypes plOk inFuncs insOk 6 ⟨10, [(.g [(.ck (.int .i64)), (.ck (.int .i64)), (.ck (.int .i64)), (.ck (.int .i64)), (.ck (.int .i64))]), (.a (.ck (.int .i64)))], (.t [(.g [(.ck (.int .i64)), (.ck (.int .i64)), (.ck (.int .i64)), (.ck (.int .i64)), (.ck (.int .i64))]), (.a (.ck (.int .i64)))])⟩ (fun args w => Try.call10 args w) tk_simulatorref27_Add (by kernel_rfl)
theorem k_simulatorref27_Add_f : k_simulatorref27_Add.con.f = 10 := rfl
theorem k_simulatorref27_Add_F (l : List Sc) : k_simulatorref27_Add.F l = if l.length = 6 then tk_simulatorref27_Add.den (gam (P := Try.prog) [k_simulatorref27_Check, k_simulatorref27_Observation, k_simulatorref27_least, k_simulatorref27_most]) l [] else none := rfl
def tk_tally_Mean : T (List Ex) :=
 (.ite (.o .eq (.v 0) (.i 0))
 (.leaf [(.i 0), (.i 0), (.b false)])
 (.call 15 [(.v 0), (.v 1), (.v 2), (.v 3), (.v 4)] 1
 (.ite (.o .ne (.v 5) (.i 0))
 (.leaf [(.i 0), (.i 0), (.b false)])
 (.call 29 [(.v 1), (.v 0)] 3
 (.leaf [(.v 6), (.v 7), (.v 8)])))))
noncomputable def k_tally_Mean : Known Try.prog := known mixedOk [k_tally_Check, k_frac_Of] (by decide) [] plTypes plOk inFuncs insOk 6 ⟨11, [(.g [(.ck (.int .i64)), (.ck (.int .i64)), (.ck (.int .i64)), (.ck (.int .i64)), (.ck (.int .i64))])], (.t [(.g [(.ck (.int .i64)), (.ck (.int .i64))]), (.a (.ck .bool))])⟩ (fun args w => Try.call11 args w) tk_tally_Mean (by kernel_rfl)
theorem k_tally_Mean_f : k_tally_Mean.con.f = 11 := rfl
theorem k_tally_Mean_F (l : List Sc) : k_tally_Mean.F l = if l.length = 5 then tk_tally_Mean.den (gam (P := Try.prog) [k_tally_Check, k_frac_Of]) l [] else none := rfl
def tk_tally_Variance : T (List Ex) :=
 (.ite (.o .lt (.v 0) (.i 2))
 (.leaf [(.i 0), (.i 0), (.b false)])
 (.call 15 [(.v 0), (.v 1), (.v 2), (.v 3), (.v 4)] 1
 (.ite (.o .ne (.v 5) (.i 0))
 (.leaf [(.i 0), (.i 0), (.b false)])
 (.call 29 [(.o (.sub .i64) (.o (.mul .i64) (.v 0) (.v 2)) (.o (.mul .i64) (.v 1) (.v 1))), (.o (.mul .i64) (.v 0) (.o (.sub .i64) (.v 0) (.i 1)))] 3
 (.leaf [(.v 6), (.v 7), (.v 8)])))))
noncomputable def k_tally_Variance : Known Try.prog := known mixedOk [k_tally_Check, k_frac_Of] (by decide) [] plTypes plOk inFuncs insOk 6 ⟨13, [(.g [(.ck (.int .i64)), (.ck (.int .i64)), (.ck (.int .i64)), (.ck (.int .i64)), (.ck (.int .i64))])], (.t [(.g [(.ck (.int .i64)), (.ck (.int .i64))]), (.a (.ck .bool))])⟩ (fun args w => Try.call13 args w) tk_tally_Variance (by kernel_rfl)
theorem k_tally_Variance_f : k_tally_Variance.con.f = 13 := rfl
theorem k_tally_Variance_F (l : List Sc) : k_tally_Variance.F l = if l.length = 5 then tk_tally_Variance.den (gam (P := Try.prog) [k_tally_Check, k_frac_Of]) l [] else none := rfl
def tk_tally_Of : T (List Ex) :=
 (.loop [(.i 0), (.i 0), (.i 0), (.i 0), (.i 0), (.i 0)]
 (.ite (.o .lt (.v 1) (.u .len (.v 0)))
 (.need (.o .le (.i 0) (.v 1)) (.need (.o .lt (.v 1) (.u .len (.v 0))) (.call 9 [(.v 2), (.v 3), (.v 4), (.v 5), (.v 6), (.o .idx (.v 0) (.v 1))] 6
 (.ite (.o .ne (.v 12) (.i 0))
 (.leaf [(.i 0), (.i 0), (.i 0), (.i 0), (.i 0), (.v 12)])
 (.next 0 [(.o (.add .i64) (.v 1) (.i 1)), (.v 7), (.v 8), (.v 9), (.v 10), (.v 11)])))))
 (.leaf [(.v 2), (.v 3), (.v 4), (.v 5), (.v 6), (.i 0)])))
noncomputable def k_tally_Of : Known Try.prog := known mixedOk [k_tally_Add] (by decide) [⟨1800003, [(11, 0)], [12, 13, 14, 6, 16, 17, 18, 15, 19, 20, 7, 8, 21, 22, 23, 24, 3, 25, 26], [(1, (0, 0)), (1, (1, 0)), (1, (2, 0)), (1, (3, 0)), (1, (4, 0))], []⟩] plTypes plOk inFuncs insOk 6 ⟨18, [(.a (.row 3 [(.int .i64)] false))], (.t [(.g [(.ck (.int .i64)), (.ck (.int .i64)), (.ck (.int .i64)), (.ck (.int .i64)), (.ck (.int .i64))]), (.a (.ck (.int .i64)))])⟩ (fun args w => Try.call18 args w) tk_tally_Of (by kernel_rfl)
theorem k_tally_Of_f : k_tally_Of.con.f = 18 := rfl
theorem k_tally_Of_F (l : List Sc) : k_tally_Of.F l = if l.length = 1 then tk_tally_Of.den (gam (P := Try.prog) [k_tally_Add]) l [] else none := rfl
def tk_simulatorref27_Of : T (List Ex) :=
 (.loop [(.i 0), (.i 0), (.i 0), (.i 0), (.i 0), (.i 0)]
 (.ite (.o .lt (.v 1) (.u .len (.v 0)))
 (.need (.o .le (.i 0) (.v 1)) (.need (.o .lt (.v 1) (.u .len (.v 0))) (.call 10 [(.v 2), (.v 3), (.v 4), (.v 5), (.v 6), (.o .idx (.v 0) (.v 1))] 6
 (.ite (.o .ne (.v 12) (.i 0))
 (.leaf [(.i 0), (.i 0), (.i 0), (.i 0), (.i 0), (.v 12)])
 (.next 0 [(.o (.add .i64) (.v 1) (.i 1)), (.v 7), (.v 8), (.v 9), (.v 10), (.v 11)])))))
 (.leaf [(.v 2), (.v 3), (.v 4), (.v 5), (.v 6), (.i 0)])))
noncomputable def k_simulatorref27_Of : Known Try.prog := known mixedOk [k_simulatorref27_Add] (by decide) [⟨2200003, [(6, 0)], [8, 9, 10, 11, 15, 16, 17, 18, 19, 20, 14, 21, 22, 5, 23, 24, 25, 26, 3, 12, 13], [(1, (0, 0)), (1, (1, 0)), (1, (2, 0)), (1, (3, 0)), (1, (4, 0))], []⟩] plTypes plOk inFuncs insOk 6 ⟨22, [(.a (.row 3 [(.int .i64)] false))], (.t [(.g [(.ck (.int .i64)), (.ck (.int .i64)), (.ck (.int .i64)), (.ck (.int .i64)), (.ck (.int .i64))]), (.a (.ck (.int .i64)))])⟩ (fun args w => Try.call22 args w) tk_simulatorref27_Of (by kernel_rfl)
theorem k_simulatorref27_Of_f : k_simulatorref27_Of.con.f = 22 := rfl
theorem k_simulatorref27_Of_F (l : List Sc) : k_simulatorref27_Of.F l = if l.length = 1 then tk_simulatorref27_Of.den (gam (P := Try.prog) [k_simulatorref27_Add]) l [] else none := rfl
def tk_frac_Cmp : T (List Ex) :=
 (.call 32 [(.v 0), (.v 1)] 1
 (.ite (.u .not (.v 4))
 (.call 32 [(.v 2), (.v 3)] 1
 (.ite (.u .not (.v 5))
 (.call 35 [(.i 0)] 1
 (.call 34 [(.v 6), (.i 1)] 2
 (.call 35 [(.i 0)] 1
 (.call 34 [(.v 9), (.i 1)] 2
 (.call 33 [(.b false), (.v 7), (.v 8), (.b true), (.v 10), (.v 11)] 3
 (.ite (.o .and (.o .eq (.v 13) (.i 0)) (.o .and (.o .eq (.v 14) (.i 0)) (.b true)))
 (.leaf [(.i 0)])
 (.ite (.v 12)
 (.leaf [(.i (-1))])
 (.leaf [(.i 1)]))))))))
 (.call 35 [(.i 0)] 1
 (.call 34 [(.v 6), (.u (.conv .u64) (.v 3))] 2
 (.call 35 [(.v 2)] 1
 (.call 34 [(.v 9), (.i 1)] 2
 (.call 33 [(.b false), (.v 7), (.v 8), (.o .le (.i 0) (.v 2)), (.v 10), (.v 11)] 3
 (.ite (.o .and (.o .eq (.v 13) (.i 0)) (.o .and (.o .eq (.v 14) (.i 0)) (.b true)))
 (.leaf [(.i 0)])
 (.ite (.v 12)
 (.leaf [(.i (-1))])
 (.leaf [(.i 1)]))))))))))
 (.call 32 [(.v 2), (.v 3)] 1
 (.ite (.u .not (.v 5))
 (.call 35 [(.v 0)] 1
 (.call 34 [(.v 6), (.i 1)] 2
 (.call 35 [(.i 0)] 1
 (.call 34 [(.v 9), (.u (.conv .u64) (.v 1))] 2
 (.call 33 [(.o .lt (.v 0) (.i 0)), (.v 7), (.v 8), (.b true), (.v 10), (.v 11)] 3
 (.ite (.o .and (.o .eq (.v 13) (.i 0)) (.o .and (.o .eq (.v 14) (.i 0)) (.b true)))
 (.leaf [(.i 0)])
 (.ite (.v 12)
 (.leaf [(.i (-1))])
 (.leaf [(.i 1)]))))))))
 (.call 35 [(.v 0)] 1
 (.call 34 [(.v 6), (.u (.conv .u64) (.v 3))] 2
 (.call 35 [(.v 2)] 1
 (.call 34 [(.v 9), (.u (.conv .u64) (.v 1))] 2
 (.call 33 [(.o .lt (.v 0) (.i 0)), (.v 7), (.v 8), (.o .le (.i 0) (.v 2)), (.v 10), (.v 11)] 3
 (.ite (.o .and (.o .eq (.v 13) (.i 0)) (.o .and (.o .eq (.v 14) (.i 0)) (.b true)))
 (.leaf [(.i 0)])
 (.ite (.v 12)
 (.leaf [(.i (-1))])
 (.leaf [(.i 1)]))))))))))))
noncomputable def k_frac_Cmp : Known Try.prog := known mixedOk [k_frac_Valid, k_frac_size, k_frac_times, k_frac_signed] (by decide) [] plTypes plOk inFuncs insOk 6 ⟨23, [(.g [(.ck (.int .i64)), (.ck (.int .i64))]), (.g [(.ck (.int .i64)), (.ck (.int .i64))])], (.c (.a (.ck (.int .i64))))⟩ (fun args w => Try.call23 args w) tk_frac_Cmp (by kernel_rfl)
theorem k_frac_Cmp_f : k_frac_Cmp.con.f = 23 := rfl
theorem k_frac_Cmp_F (l : List Sc) : k_frac_Cmp.F l = if l.length = 4 then tk_frac_Cmp.den (gam (P := Try.prog) [k_frac_Valid, k_frac_size, k_frac_times, k_frac_signed]) l [] else none := rfl
def tk_simulatorref02_common : T (List Ex) :=
 (.loop [(.v 0), (.v 1), (.v 2), (.v 3)]
 (.ite (.u .not (.o .and (.o .eq (.v 6) (.i 0)) (.o .and (.o .eq (.v 7) (.i 0)) (.b true))))
 (.call 39 [(.v 4), (.v 5), (.v 6), (.v 7)] 4
 (.next 0 [(.v 6), (.v 7), (.v 10), (.v 11)]))
 (.leaf [(.v 4), (.v 5)])))
noncomputable def k_simulatorref02_common : Known Try.prog := known mixedOk [k_simulatorref02_Divide] (by decide) [⟨3800001, [], [7, 8, 9, 11, 12, 13, 10, 14, 15, 5, 6, 16, 17], [(0, (0, 0)), (0, (1, 0)), (1, (0, 0)), (1, (1, 0))], []⟩] plTypes plOk inFuncs insOk 6 ⟨38, [(.g [(.ck (.int .u64)), (.ck (.int .u64))]), (.g [(.ck (.int .u64)), (.ck (.int .u64))])], (.c (.g [(.ck (.int .u64)), (.ck (.int .u64))]))⟩ (fun args w => Try.call38 args w) tk_simulatorref02_common (by kernel_rfl)
theorem k_simulatorref02_common_f : k_simulatorref02_common.con.f = 38 := rfl
theorem k_simulatorref02_common_F (l : List Sc) : k_simulatorref02_common.F l = if l.length = 4 then tk_simulatorref02_common.den (gam (P := Try.prog) [k_simulatorref02_Divide]) l [] else none := rfl
def tk_simulatorlaw27_awake : T (List Ex) :=
 (.call 18 [(.o .cons (.i 1) (.o .cons (.i 2) (.o .cons (.i 4) .nil)))] 6
 (.call 11 [(.v 0), (.v 1), (.v 2), (.v 3), (.v 4)] 3
 (.call 13 [(.v 0), (.v 1), (.v 2), (.v 3), (.v 4)] 3
 (.call 9 [(.i 0), (.i 0), (.i 0), (.i 0), (.i 0), (.i 5)] 6
 (.ite (.o .eq (.v 5) (.i 0))
 (.ite (.o .and (.o .eq (.v 6) (.i 7)) (.o .and (.o .eq (.v 7) (.i 3)) (.b true)))
 (.ite (.v 8)
 (.ite (.o .and (.o .eq (.v 9) (.i 7)) (.o .and (.o .eq (.v 10) (.i 3)) (.b true)))
 (.ite (.v 11)
 (.ite (.o .and (.o .eq (.v 12) (.i 1)) (.o .and (.o .eq (.v 13) (.i 5)) (.o .and (.o .eq (.v 14) (.i 25)) (.o .and (.o .eq (.v 15) (.i 5)) (.o .and (.o .eq (.v 16) (.i 5)) (.b true))))))
 (.ite (.o .eq (.v 17) (.i 0))
 (.call 15 [(.i 2), (.i 0), (.i 1), (.i (-1)), (.i 1)] 1
 (.ite (.o .eq (.v 18) (.i 8))
 (.call 15 [(.i 0), (.i 0), (.i 0), (.i 0), (.i 0)] 1
 (.leaf [(.o .eq (.v 19) (.i 0))]))
 (.leaf [(.b false)])))
 (.leaf [(.b false)]))
 (.leaf [(.b false)]))
 (.leaf [(.b false)]))
 (.leaf [(.b false)]))
 (.leaf [(.b false)]))
 (.leaf [(.b false)]))
 (.leaf [(.b false)]))))))
noncomputable def k_simulatorlaw27_awake : Known Try.prog := known mixedOk [k_tally_Of, k_tally_Mean, k_tally_Variance, k_tally_Add, k_tally_Check] (by decide) [] plTypes plOk inFuncs insOk 6 ⟨17, [], (.c (.a (.ck .bool)))⟩ (fun args w => Try.call17 args w) tk_simulatorlaw27_awake (by kernel_rfl)
theorem k_simulatorlaw27_awake_f : k_simulatorlaw27_awake.con.f = 17 := rfl
theorem k_simulatorlaw27_awake_F (l : List Sc) : k_simulatorlaw27_awake.F l = if l.length = 0 then tk_simulatorlaw27_awake.den (gam (P := Try.prog) [k_tally_Of, k_tally_Mean, k_tally_Variance, k_tally_Add, k_tally_Check]) l [] else none := rfl
def tk_simulatorref02_Made : T (List Ex) :=
 (.call 38 [(.v 1), (.v 2), (.v 3), (.v 4)] 2
 (.call 39 [(.v 1), (.v 2), (.v 5), (.v 6)] 4
 (.call 39 [(.v 3), (.v 4), (.v 5), (.v 6)] 4
 (.ite (.o .ne (.v 7) (.i 0))
 (.leaf [(.i 0), (.i 0), (.b false)])
 (.ite (.o .lt (.i 4611686018427387904) (.v 8))
 (.leaf [(.i 0), (.i 0), (.b false)])
 (.ite (.o .ne (.v 11) (.i 0))
 (.leaf [(.i 0), (.i 0), (.b false)])
 (.ite (.o .lt (.i 1000000000000000) (.v 12))
 (.leaf [(.i 0), (.i 0), (.b false)])
 (.ite (.v 0)
 (.leaf [(.o (.sub .i64) (.i 0) (.u (.conv .i64) (.v 8))), (.u (.conv .i64) (.v 12)), (.b true)])
 (.leaf [(.u (.conv .i64) (.v 8)), (.u (.conv .i64) (.v 12)), (.b true)])))))))))
noncomputable def k_simulatorref02_Made : Known Try.prog := known mixedOk [k_simulatorref02_common, k_simulatorref02_Divide] (by decide) [] plTypes plOk inFuncs insOk 6 ⟨30, [(.g [(.ck .bool), (.ck (.int .u64)), (.ck (.int .u64))]), (.g [(.ck (.int .u64)), (.ck (.int .u64))])], (.t [(.g [(.ck (.int .i64)), (.ck (.int .i64))]), (.a (.ck .bool))])⟩ (fun args w => Try.call30 args w) tk_simulatorref02_Made (by kernel_rfl)
theorem k_simulatorref02_Made_f : k_simulatorref02_Made.con.f = 30 := rfl
theorem k_simulatorref02_Made_F (l : List Sc) : k_simulatorref02_Made.F l = if l.length = 5 then tk_simulatorref02_Made.den (gam (P := Try.prog) [k_simulatorref02_common, k_simulatorref02_Divide]) l [] else none := rfl
def tk_simulatorlaw27_TallyMerges : T (List Ex) :=
 (.call 20 [(.v 0), (.v 1), (.v 2), (.v 3), (.v 4), (.v 5), (.v 6), (.v 7), (.v 8), (.v 9)] 6
 (.call 21 [(.v 0), (.v 1), (.v 2), (.v 3), (.v 4), (.v 5), (.v 6), (.v 7), (.v 8), (.v 9)] 6
 (.call 20 [(.v 5), (.v 6), (.v 7), (.v 8), (.v 9), (.v 0), (.v 1), (.v 2), (.v 3), (.v 4)] 6
 (.ite (.u .not (.o .and (.o .eq (.v 10) (.v 16)) (.o .and (.o .eq (.v 11) (.v 17)) (.o .and (.o .eq (.v 12) (.v 18)) (.o .and (.o .eq (.v 13) (.v 19)) (.o .and (.o .eq (.v 14) (.v 20)) (.b true)))))))
 (.leaf [(.b false)])
 (.ite (.o .ne (.v 15) (.v 21))
 (.leaf [(.b false)])
 (.ite (.u .not (.o .and (.o .eq (.v 10) (.v 22)) (.o .and (.o .eq (.v 11) (.v 23)) (.o .and (.o .eq (.v 12) (.v 24)) (.o .and (.o .eq (.v 13) (.v 25)) (.o .and (.o .eq (.v 14) (.v 26)) (.b true)))))))
 (.leaf [(.b false)])
 (.ite (.u .not (.o .beq (.o .eq (.v 15) (.i 0)) (.o .eq (.v 27) (.i 0))))
 (.leaf [(.b false)])
 (.ite (.o .ne (.v 15) (.i 0))
 (.call 17 [] 1
 (.leaf [(.v 28)]))
 (.call 15 [(.v 10), (.v 11), (.v 12), (.v 13), (.v 14)] 1
 (.ite (.o .eq (.v 28) (.i 0))
 (.call 17 [] 1
 (.leaf [(.v 29)]))
 (.leaf [(.b false)])))))))))))
noncomputable def k_simulatorlaw27_TallyMerges : Known Try.prog := known mixedOk [k_tally_Merge, k_simulatorref27_Merge, k_simulatorlaw27_awake, k_tally_Check] (by decide) [] plTypes plOk inFuncs insOk 6 ⟨5, [(.g [(.ck (.int .i64)), (.ck (.int .i64)), (.ck (.int .i64)), (.ck (.int .i64)), (.ck (.int .i64))]), (.g [(.ck (.int .i64)), (.ck (.int .i64)), (.ck (.int .i64)), (.ck (.int .i64)), (.ck (.int .i64))])], (.c (.a (.ck .bool)))⟩ (fun args w => Try.call5 args w) tk_simulatorlaw27_TallyMerges (by kernel_rfl)
theorem k_simulatorlaw27_TallyMerges_f : k_simulatorlaw27_TallyMerges.con.f = 5 := rfl
theorem k_simulatorlaw27_TallyMerges_F (l : List Sc) : k_simulatorlaw27_TallyMerges.F l = if l.length = 10 then tk_simulatorlaw27_TallyMerges.den (gam (P := Try.prog) [k_tally_Merge, k_simulatorref27_Merge, k_simulatorlaw27_awake, k_tally_Check]) l [] else none := rfl
def tk_simulatorlaw27_TallyJoins : T (List Ex) :=
 (.ite (.o .lt (.i 200) (.u .len (.v 0)))
 (.call 17 [] 1
 (.leaf [(.v 2)]))
 (.ite (.o .lt (.i 200) (.u .len (.v 1)))
 (.call 17 [] 1
 (.leaf [(.v 2)]))
 (.need (.o .le (.u .len (.v 0)) (.i 17592186044416)) (.need (.o .le (.u .len (.o .app (.v 0) (.v 1))) (.i 17592186044416)) (.call 18 [(.v 0)] 6
 (.call 18 [(.v 1)] 6
 (.call 18 [(.o .app (.v 0) (.v 1))] 6
 (.call 22 [(.o .app (.v 0) (.v 1))] 6
 (.ite (.u .not (.o .and (.o .eq (.v 14) (.v 20)) (.o .and (.o .eq (.v 15) (.v 21)) (.o .and (.o .eq (.v 16) (.v 22)) (.o .and (.o .eq (.v 17) (.v 23)) (.o .and (.o .eq (.v 18) (.v 24)) (.b true)))))))
 (.leaf [(.b false)])
 (.ite (.o .ne (.v 19) (.v 25))
 (.leaf [(.b false)])
 (.ite (.o .ne (.v 7) (.i 0))
 (.ite (.o .ne (.v 19) (.i 0))
 (.call 17 [] 1
 (.leaf [(.v 26)]))
 (.leaf [(.b false)]))
 (.ite (.o .ne (.v 13) (.i 0))
 (.ite (.o .ne (.v 19) (.i 0))
 (.call 17 [] 1
 (.leaf [(.v 26)]))
 (.leaf [(.b false)]))
 (.call 20 [(.v 2), (.v 3), (.v 4), (.v 5), (.v 6), (.v 8), (.v 9), (.v 10), (.v 11), (.v 12)] 6
 (.loop [(.i 0), (.i 0), (.i 0)]
 (.ite (.o .lt (.v 34) (.u .len (.o .app (.v 0) (.v 1))))
 (.need (.o .le (.i 0) (.v 34)) (.need (.o .lt (.v 34) (.u .len (.o .app (.v 0) (.v 1)))) (.ite (.o .lt (.o .idx (.o .app (.v 0) (.v 1)) (.v 34)) (.v 29))
 (.leaf [(.b false)])
 (.ite (.o .lt (.v 30) (.o .idx (.o .app (.v 0) (.v 1)) (.v 34)))
 (.leaf [(.b false)])
 (.next 0 [(.o (.add .i64) (.v 32) (.o .idx (.o .app (.v 0) (.v 1)) (.v 34))), (.o (.add .i64) (.v 33) (.o (.mul .i64) (.o .idx (.o .app (.v 0) (.v 1)) (.v 34)) (.o .idx (.o .app (.v 0) (.v 1)) (.v 34)))), (.o (.add .i64) (.v 34) (.i 1))])))))
 (.ite (.o .eq (.v 31) (.i 0))
 (.ite (.o .and (.o .eq (.v 26) (.v 14)) (.o .and (.o .eq (.v 27) (.v 15)) (.o .and (.o .eq (.v 28) (.v 16)) (.o .and (.o .eq (.v 29) (.v 17)) (.o .and (.o .eq (.v 30) (.v 18)) (.b true))))))
 (.ite (.o .eq (.v 14) (.u .len (.o .app (.v 0) (.v 1))))
 (.ite (.o .eq (.v 15) (.v 32))
 (.ite (.o .eq (.v 16) (.v 33))
 (.call 15 [(.v 14), (.v 15), (.v 16), (.v 17), (.v 18)] 1
 (.ite (.o .eq (.v 35) (.i 0))
 (.call 17 [] 1
 (.leaf [(.v 36)]))
 (.leaf [(.b false)])))
 (.leaf [(.b false)]))
 (.leaf [(.b false)]))
 (.leaf [(.b false)]))
 (.leaf [(.b false)]))
 (.leaf [(.b false)])))))))))))))))))
noncomputable def k_simulatorlaw27_TallyJoins : Known Try.prog := known mixedOk [k_simulatorlaw27_awake, k_tally_Of, k_simulatorref27_Of, k_tally_Merge, k_tally_Check] (by decide) [⟨600015, [(16, 0), (17, 0), (81, 0)], [82, 83, 84, 19, 85, 86, 87, 88, 89, 90, 91, 92, 93, 94, 4, 95, 96, 97, 98, 99, 100, 101, 102, 103], [], []⟩] plTypes plOk inFuncs insOk 6 ⟨6, [(.a (.row 3 [(.int .i64)] false)), (.a (.row 3 [(.int .i64)] false))], (.c (.a (.ck .bool)))⟩ (fun args w => Try.call6 args w) tk_simulatorlaw27_TallyJoins (by kernel_rfl)
theorem k_simulatorlaw27_TallyJoins_f : k_simulatorlaw27_TallyJoins.con.f = 6 := rfl
theorem k_simulatorlaw27_TallyJoins_F (l : List Sc) : k_simulatorlaw27_TallyJoins.F l = if l.length = 2 then tk_simulatorlaw27_TallyJoins.den (gam (P := Try.prog) [k_simulatorlaw27_awake, k_tally_Of, k_simulatorref27_Of, k_tally_Merge, k_tally_Check]) l [] else none := rfl
def tk_simulatorlaw27_TallyFull : T (List Ex) :=
 (.ite (.o .lt (.v 0) (.i 1990))
 (.call 17 [] 1
 (.leaf [(.v 2)]))
 (.ite (.o .lt (.i 2010) (.v 0))
 (.call 17 [] 1
 (.leaf [(.v 2)]))
 (.ite (.o .lt (.v 1) (.i (-1000000)))
 (.call 17 [] 1
 (.leaf [(.v 2)]))
 (.ite (.o .lt (.i 1000000) (.v 1))
 (.call 17 [] 1
 (.leaf [(.v 2)]))
 (.loop [.nil, (.i 0)]
 (.ite (.o .lt (.v 3) (.v 0))
 (.need (.o .le (.u .len (.o .snoc (.v 2) (.v 1))) (.i 17592186044416)) (.next 0 [(.o .snoc (.v 2) (.v 1)), (.o (.add .i64) (.v 3) (.i 1))]))
 (.call 18 [(.v 2)] 6
 (.ite (.o .lt (.i 2000) (.v 0))
 (.ite (.o .and (.o .eq (.v 4) (.i 0)) (.o .and (.o .eq (.v 5) (.i 0)) (.o .and (.o .eq (.v 6) (.i 0)) (.o .and (.o .eq (.v 7) (.i 0)) (.o .and (.o .eq (.v 8) (.i 0)) (.b true))))))
 (.ite (.o .eq (.v 9) (.i 13))
 (.call 17 [] 1
 (.leaf [(.v 10)]))
 (.leaf [(.b false)]))
 (.leaf [(.b false)]))
 (.call 20 [(.v 4), (.v 5), (.v 6), (.v 7), (.v 8), (.v 4), (.v 5), (.v 6), (.v 7), (.v 8)] 6
 (.ite (.o .eq (.v 4) (.v 0))
 (.ite (.o .eq (.v 9) (.i 0))
 (.ite (.o .eq (.v 15) (.i 13))
 (.call 15 [(.v 4), (.v 5), (.v 6), (.v 7), (.v 8)] 1
 (.ite (.o .eq (.v 16) (.i 0))
 (.call 17 [] 1
 (.leaf [(.v 17)]))
 (.leaf [(.b false)])))
 (.leaf [(.b false)]))
 (.leaf [(.b false)]))
 (.leaf [(.b false)])))))))))))
noncomputable def k_simulatorlaw27_TallyFull : Known Try.prog := known mixedOk [k_simulatorlaw27_awake, k_tally_Of, k_tally_Merge, k_tally_Check] (by decide) [⟨700005, [(5, 3), (6, 0)], [26, 27, 28, 31, 32, 33, 34, 29, 30], [], []⟩] plTypes plOk inFuncs insOk 6 ⟨7, [(.a (.ck (.int .i64))), (.a (.ck (.int .i64)))], (.c (.a (.ck .bool)))⟩ (fun args w => Try.call7 args w) tk_simulatorlaw27_TallyFull (by kernel_rfl)
theorem k_simulatorlaw27_TallyFull_f : k_simulatorlaw27_TallyFull.con.f = 7 := rfl
theorem k_simulatorlaw27_TallyFull_F (l : List Sc) : k_simulatorlaw27_TallyFull.F l = if l.length = 2 then tk_simulatorlaw27_TallyFull.den (gam (P := Try.prog) [k_simulatorlaw27_awake, k_tally_Of, k_tally_Merge, k_tally_Check]) l [] else none := rfl
def tk_simulatorlaw27_TallyMeans : T (List Ex) :=
 (.ite (.o .lt (.i 200) (.u .len (.v 0)))
 (.call 17 [] 1
 (.leaf [(.v 1)]))
 (.call 18 [(.v 0)] 6
 (.call 11 [(.v 1), (.v 2), (.v 3), (.v 4), (.v 5)] 3
 (.call 13 [(.v 1), (.v 2), (.v 3), (.v 4), (.v 5)] 3
 (.ite (.o .ne (.v 6) (.i 0))
 (.ite (.u .not (.v 9))
 (.ite (.u .not (.v 12))
 (.call 17 [] 1
 (.leaf [(.v 13)]))
 (.leaf [(.b false)]))
 (.leaf [(.b false)]))
 (.ite (.o .eq (.u .len (.v 0)) (.i 0))
 (.ite (.u .not (.v 9))
 (.ite (.u .not (.v 12))
 (.call 17 [] 1
 (.leaf [(.v 13)]))
 (.leaf [(.b false)]))
 (.leaf [(.b false)]))
 (.ite (.u .not (.v 9))
 (.leaf [(.b false)])
 (.call 23 [(.v 4), (.i 1), (.v 7), (.v 8)] 1
 (.ite (.o .lt (.i 0) (.v 13))
 (.leaf [(.b false)])
 (.call 23 [(.v 7), (.v 8), (.v 5), (.i 1)] 1
 (.ite (.o .lt (.i 0) (.v 14))
 (.leaf [(.b false)])
 (.ite (.u .not (.o .beq (.v 12) (.o .lt (.i 1) (.u .len (.v 0)))))
 (.leaf [(.b false)])
 (.loop [(.b true), (.i 0)]
 (.ite (.o .lt (.v 16) (.u .len (.v 0)))
 (.need (.o .le (.i 0) (.v 16)) (.need (.o .lt (.v 16) (.u .len (.v 0))) (.ite (.v 15)
 (.need (.o .lt (.i 0) (.u .len (.v 0))) (.next 0 [(.o .eq (.o .idx (.v 0) (.v 16)) (.o .idx (.v 0) (.i 0))), (.o (.add .i64) (.v 16) (.i 1))]))
 (.next 0 [(.b false), (.o (.add .i64) (.v 16) (.i 1))]))))
 (.ite (.u .not (.v 12))
 (.call 17 [] 1
 (.leaf [(.v 17)]))
 (.ite (.o .le (.i 0) (.v 10))
 (.ite (.o .beq (.o .eq (.v 10) (.i 0)) (.v 15))
 (.call 17 [] 1
 (.leaf [(.v 17)]))
 (.leaf [(.b false)]))
 (.leaf [(.b false)])))))))))))))))))
noncomputable def k_simulatorlaw27_TallyMeans : Known Try.prog := known mixedOk [k_simulatorlaw27_awake, k_tally_Of, k_tally_Mean, k_tally_Variance, k_frac_Cmp] (by decide) [⟨800012, [(9, 0), (74, 0)], [75, 76, 77, 11, 78, 79, 80, 81, 82, 83, 84, 85, 86], [], []⟩] plTypes plOk inFuncs insOk 6 ⟨8, [(.a (.row 3 [(.int .i64)] false))], (.c (.a (.ck .bool)))⟩ (fun args w => Try.call8 args w) tk_simulatorlaw27_TallyMeans (by kernel_rfl)
theorem k_simulatorlaw27_TallyMeans_f : k_simulatorlaw27_TallyMeans.con.f = 8 := rfl
theorem k_simulatorlaw27_TallyMeans_F (l : List Sc) : k_simulatorlaw27_TallyMeans.F l = if l.length = 1 then tk_simulatorlaw27_TallyMeans.den (gam (P := Try.prog) [k_simulatorlaw27_awake, k_tally_Of, k_tally_Mean, k_tally_Variance, k_frac_Cmp]) l [] else none := rfl
def tk_simulatorref02_Of : T (List Ex) :=
 (.ite (.o .eq (.v 1) (.i 0))
 (.leaf [(.i 0), (.i 0), (.b false)])
 (.call 31 [(.v 0)] 1
 (.call 31 [(.v 1)] 1
 (.call 30 [(.u .not (.o .beq (.o .lt (.v 0) (.i 0)) (.o .lt (.v 1) (.i 0)))), (.i 0), (.v 2), (.i 0), (.v 3)] 3
 (.leaf [(.v 4), (.v 5), (.v 6)])))))
noncomputable def k_simulatorref02_Of : Known Try.prog := known mixedOk [k_simulatorref02_Size, k_simulatorref02_Made] (by decide) [] plTypes plOk inFuncs insOk 6 ⟨19, [(.a (.ck (.int .i64))), (.a (.ck (.int .i64)))], (.t [(.g [(.ck (.int .i64)), (.ck (.int .i64))]), (.a (.ck .bool))])⟩ (fun args w => Try.call19 args w) tk_simulatorref02_Of (by kernel_rfl)
theorem k_simulatorref02_Of_f : k_simulatorref02_Of.con.f = 19 := rfl
theorem k_simulatorref02_Of_F (l : List Sc) : k_simulatorref02_Of.F l = if l.length = 2 then tk_simulatorref02_Of.den (gam (P := Try.prog) [k_simulatorref02_Size, k_simulatorref02_Made]) l [] else none := rfl
def tk_simulatorlaw27_TallyTwo : T (List Ex) :=
 (.ite (.o .lt (.v 0) (.i (-1000000)))
 (.call 17 [] 1
 (.leaf [(.v 4)]))
 (.ite (.o .lt (.i 1000000) (.v 0))
 (.call 17 [] 1
 (.leaf [(.v 4)]))
 (.ite (.o .lt (.v 1) (.i (-1000000)))
 (.call 17 [] 1
 (.leaf [(.v 4)]))
 (.ite (.o .lt (.i 1000000) (.v 1))
 (.call 17 [] 1
 (.leaf [(.v 4)]))
 (.ite (.o .lt (.i 100) (.v 2))
 (.call 17 [] 1
 (.leaf [(.v 4)]))
 (.ite (.o .lt (.i 100) (.v 3))
 (.call 17 [] 1
 (.leaf [(.v 4)]))
 (.ite (.o .lt (.o (.add .i64) (.u (.conv .i64) (.v 2)) (.u (.conv .i64) (.v 3))) (.i 2))
 (.call 17 [] 1
 (.leaf [(.v 4)]))
 (.loop [.nil, (.i 0)]
 (.ite (.o .lt (.v 5) (.u (.conv .i64) (.v 2)))
 (.need (.o .le (.u .len (.o .snoc (.v 4) (.v 0))) (.i 17592186044416)) (.next 0 [(.o .snoc (.v 4) (.v 0)), (.o (.add .i64) (.v 5) (.i 1))]))
 (.loop [(.v 4), (.i 0)]
 (.ite (.o .lt (.v 7) (.u (.conv .i64) (.v 3)))
 (.need (.o .le (.u .len (.o .snoc (.v 6) (.v 1))) (.i 17592186044416)) (.next 1 [(.o .snoc (.v 6) (.v 1)), (.o (.add .i64) (.v 7) (.i 1))]))
 (.call 18 [(.v 6)] 6
 (.call 11 [(.v 8), (.v 9), (.v 10), (.v 11), (.v 12)] 3
 (.call 13 [(.v 8), (.v 9), (.v 10), (.v 11), (.v 12)] 3
 (.call 19 [(.o (.add .i64) (.o (.mul .i64) (.u (.conv .i64) (.v 2)) (.v 0)) (.o (.mul .i64) (.u (.conv .i64) (.v 3)) (.v 1))), (.o (.add .i64) (.u (.conv .i64) (.v 2)) (.u (.conv .i64) (.v 3)))] 3
 (.call 19 [(.o (.mul .i64) (.o (.mul .i64) (.o (.mul .i64) (.u (.conv .i64) (.v 2)) (.u (.conv .i64) (.v 3))) (.o (.sub .i64) (.v 0) (.v 1))) (.o (.sub .i64) (.v 0) (.v 1))), (.o (.mul .i64) (.o (.add .i64) (.u (.conv .i64) (.v 2)) (.u (.conv .i64) (.v 3))) (.o (.sub .i64) (.o (.add .i64) (.u (.conv .i64) (.v 2)) (.u (.conv .i64) (.v 3))) (.i 1)))] 3
 (.ite (.o .eq (.v 13) (.i 0))
 (.ite (.v 16)
 (.ite (.v 19)
 (.ite (.o .and (.o .eq (.v 14) (.v 20)) (.o .and (.o .eq (.v 15) (.v 21)) (.b true)))
 (.ite (.o .and (.o .eq (.v 17) (.v 23)) (.o .and (.o .eq (.v 18) (.v 24)) (.b true)))
 (.call 17 [] 1
 (.leaf [(.v 26)]))
 (.leaf [(.b false)]))
 (.leaf [(.b false)]))
 (.leaf [(.b false)]))
 (.leaf [(.b false)]))
 (.leaf [(.b false)]))))))))))))))))))
noncomputable def k_simulatorlaw27_TallyTwo : Known Try.prog := known mixedOk [k_simulatorlaw27_awake, k_tally_Of, k_tally_Mean, k_tally_Variance, k_simulatorref02_Of] (by decide) [⟨400010, [(7, 3), (9, 0)], [71, 72, 73, 74, 77, 78, 79, 80, 75, 76], [], []⟩, ⟨400006, [(7, 3), (8, 0)], [61, 62, 63, 64, 67, 68, 69, 70, 65, 66], [], []⟩] plTypes plOk inFuncs insOk 6 ⟨4, [(.g [(.ck (.int .i64)), (.ck (.int .i64)), (.ck (.int .u8)), (.ck (.int .u8))])], (.c (.a (.ck .bool)))⟩ (fun args w => Try.call4 args w) tk_simulatorlaw27_TallyTwo (by kernel_rfl)
theorem k_simulatorlaw27_TallyTwo_f : k_simulatorlaw27_TallyTwo.con.f = 4 := rfl
theorem k_simulatorlaw27_TallyTwo_F (l : List Sc) : k_simulatorlaw27_TallyTwo.F l = if l.length = 4 then tk_simulatorlaw27_TallyTwo.den (gam (P := Try.prog) [k_simulatorlaw27_awake, k_tally_Of, k_tally_Mean, k_tally_Variance, k_simulatorref02_Of]) l [] else none := rfl
def tk_simulatorref27_Mean : T (List Ex) :=
 (.call 16 [(.v 0), (.v 1), (.v 2), (.v 3), (.v 4)] 1
 (.ite (.o .ne (.v 5) (.i 0))
 (.leaf [(.i 0), (.i 0), (.b false)])
 (.ite (.o .eq (.v 0) (.i 0))
 (.leaf [(.i 0), (.i 0), (.b false)])
 (.call 19 [(.v 1), (.v 0)] 3
 (.leaf [(.v 6), (.v 7), (.v 8)])))))
noncomputable def k_simulatorref27_Mean : Known Try.prog := known mixedOk [k_simulatorref27_Check, k_simulatorref02_Of] (by decide) [] plTypes plOk inFuncs insOk 6 ⟨12, [(.g [(.ck (.int .i64)), (.ck (.int .i64)), (.ck (.int .i64)), (.ck (.int .i64)), (.ck (.int .i64))])], (.t [(.g [(.ck (.int .i64)), (.ck (.int .i64))]), (.a (.ck .bool))])⟩ (fun args w => Try.call12 args w) tk_simulatorref27_Mean (by kernel_rfl)
theorem k_simulatorref27_Mean_f : k_simulatorref27_Mean.con.f = 12 := rfl
theorem k_simulatorref27_Mean_F (l : List Sc) : k_simulatorref27_Mean.F l = if l.length = 5 then tk_simulatorref27_Mean.den (gam (P := Try.prog) [k_simulatorref27_Check, k_simulatorref02_Of]) l [] else none := rfl
def tk_simulatorref27_Variance : T (List Ex) :=
 (.call 16 [(.v 0), (.v 1), (.v 2), (.v 3), (.v 4)] 1
 (.ite (.o .ne (.v 5) (.i 0))
 (.leaf [(.i 0), (.i 0), (.b false)])
 (.ite (.o .lt (.v 0) (.i 2))
 (.leaf [(.i 0), (.i 0), (.b false)])
 (.call 19 [(.o (.sub .i64) (.o (.mul .i64) (.v 0) (.v 2)) (.o (.mul .i64) (.v 1) (.v 1))), (.o (.mul .i64) (.v 0) (.o (.sub .i64) (.v 0) (.i 1)))] 3
 (.leaf [(.v 6), (.v 7), (.v 8)])))))
noncomputable def k_simulatorref27_Variance : Known Try.prog := known mixedOk [k_simulatorref27_Check, k_simulatorref02_Of] (by decide) [] plTypes plOk inFuncs insOk 6 ⟨14, [(.g [(.ck (.int .i64)), (.ck (.int .i64)), (.ck (.int .i64)), (.ck (.int .i64)), (.ck (.int .i64))])], (.t [(.g [(.ck (.int .i64)), (.ck (.int .i64))]), (.a (.ck .bool))])⟩ (fun args w => Try.call14 args w) tk_simulatorref27_Variance (by kernel_rfl)
theorem k_simulatorref27_Variance_f : k_simulatorref27_Variance.con.f = 14 := rfl
theorem k_simulatorref27_Variance_F (l : List Sc) : k_simulatorref27_Variance.F l = if l.length = 5 then tk_simulatorref27_Variance.den (gam (P := Try.prog) [k_simulatorref27_Check, k_simulatorref02_Of]) l [] else none := rfl
def tk_simulatorlaw27_TallyChecks : T (List Ex) :=
 (.call 9 [(.v 0), (.v 1), (.v 2), (.v 3), (.v 4), (.v 5)] 6
 (.call 10 [(.v 0), (.v 1), (.v 2), (.v 3), (.v 4), (.v 5)] 6
 (.call 11 [(.v 0), (.v 1), (.v 2), (.v 3), (.v 4)] 3
 (.call 12 [(.v 0), (.v 1), (.v 2), (.v 3), (.v 4)] 3
 (.call 13 [(.v 0), (.v 1), (.v 2), (.v 3), (.v 4)] 3
 (.call 14 [(.v 0), (.v 1), (.v 2), (.v 3), (.v 4)] 3
 (.call 15 [(.v 0), (.v 1), (.v 2), (.v 3), (.v 4)] 1
 (.call 16 [(.v 0), (.v 1), (.v 2), (.v 3), (.v 4)] 1
 (.ite (.o .eq (.v 30) (.v 31))
 (.ite (.o .and (.o .eq (.v 6) (.v 12)) (.o .and (.o .eq (.v 7) (.v 13)) (.o .and (.o .eq (.v 8) (.v 14)) (.o .and (.o .eq (.v 9) (.v 15)) (.o .and (.o .eq (.v 10) (.v 16)) (.b true))))))
 (.ite (.o .eq (.v 11) (.v 17))
 (.ite (.o .and (.o .eq (.v 18) (.v 21)) (.o .and (.o .eq (.v 19) (.v 22)) (.b true)))
 (.ite (.o .beq (.v 20) (.v 23))
 (.ite (.o .and (.o .eq (.v 24) (.v 27)) (.o .and (.o .eq (.v 25) (.v 28)) (.b true)))
 (.ite (.o .beq (.v 26) (.v 29))
 (.call 17 [] 1
 (.leaf [(.v 32)]))
 (.leaf [(.b false)]))
 (.leaf [(.b false)]))
 (.leaf [(.b false)]))
 (.leaf [(.b false)]))
 (.leaf [(.b false)]))
 (.leaf [(.b false)]))
 (.leaf [(.b false)]))))))))))
noncomputable def k_simulatorlaw27_TallyChecks : Known Try.prog := known mixedOk [k_tally_Add, k_simulatorref27_Add, k_tally_Mean, k_simulatorref27_Mean, k_tally_Variance, k_simulatorref27_Variance, k_tally_Check, k_simulatorref27_Check, k_simulatorlaw27_awake] (by decide) [] plTypes plOk inFuncs insOk 6 ⟨3, [(.g [(.ck (.int .i64)), (.ck (.int .i64)), (.ck (.int .i64)), (.ck (.int .i64)), (.ck (.int .i64))]), (.a (.ck (.int .i64)))], (.c (.a (.ck .bool)))⟩ (fun args w => Try.call3 args w) tk_simulatorlaw27_TallyChecks (by kernel_rfl)
theorem k_simulatorlaw27_TallyChecks_f : k_simulatorlaw27_TallyChecks.con.f = 3 := rfl
theorem k_simulatorlaw27_TallyChecks_F (l : List Sc) : k_simulatorlaw27_TallyChecks.F l = if l.length = 6 then tk_simulatorlaw27_TallyChecks.den (gam (P := Try.prog) [k_tally_Add, k_simulatorref27_Add, k_tally_Mean, k_simulatorref27_Mean, k_tally_Variance, k_simulatorref27_Variance, k_tally_Check, k_simulatorref27_Check, k_simulatorlaw27_awake]) l [] else none := rfl
end Go.Proofs.Ytahchcpimanjfaa
