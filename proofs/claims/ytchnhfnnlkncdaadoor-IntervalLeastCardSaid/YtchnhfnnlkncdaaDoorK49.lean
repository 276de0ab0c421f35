/-
  What the functions of this seat reckon: their trees, checked by the kernel. Printed by a program of mine.
-/
import Derived.Test.YtchnhfnnlkncdaaDoorProg
import Derived.KernelRfl
import Derived.Test.YtchnhfnnlkncdaaDoorSymX
import Derived.Test.YtchnhfnnlkncdaaDoorExt
import Derived.Test.YtchnhfnnlkncdaaDoorGlQ
namespace Go.Proofs.YtchnhfnnlkncdaaDoor
open Go.RowKit
def plTypes : List Nat := [7, 8, 24, 25, 26, 27, 44, 45, 64, 65, 79, 80, 114, 115]
theorem plOk : PlainTy Tryd.prog plTypes := by
  intro t ht
  have := hasN_mem.1 ht
  simp only [plTypes, List.mem_cons, List.not_mem_nil, or_false] at this
  rcases this with rfl | rfl | rfl | rfl | rfl | rfl | rfl | rfl | rfl | rfl | rfl | rfl | rfl | rfl
  · exact ⟨Tryd.stoodInHeld7, Tryd.eqGuardType7⟩
  · exact ⟨Tryd.stoodInHeld8, Tryd.eqGuardType8⟩
  · exact ⟨Tryd.stoodInHeld24, Tryd.eqGuardType24⟩
  · exact ⟨Tryd.stoodInHeld25, Tryd.eqGuardType25⟩
  · exact ⟨Tryd.stoodInHeld26, Tryd.eqGuardType26⟩
  · exact ⟨Tryd.stoodInHeld27, Tryd.eqGuardType27⟩
  · exact ⟨Tryd.stoodInHeld44, Tryd.eqGuardType44⟩
  · exact ⟨Tryd.stoodInHeld45, Tryd.eqGuardType45⟩
  · exact ⟨Tryd.stoodInHeld64, Tryd.eqGuardType64⟩
  · exact ⟨Tryd.stoodInHeld65, Tryd.eqGuardType65⟩
  · exact ⟨Tryd.stoodInHeld79, Tryd.eqGuardType79⟩
  · exact ⟨Tryd.stoodInHeld80, Tryd.eqGuardType80⟩
  · exact ⟨Tryd.stoodInHeld114, Tryd.eqGuardType114⟩
  · exact ⟨Tryd.stoodInHeld115, Tryd.eqGuardType115⟩
def inFuncs : List Nat := [56, 57]
theorem insOk : ∀ f, hasN inFuncs f = true → ∀ args w, (callFunc f args).run Tryd.prog w = .ok (.enter f args) w := by
  intro f hf
  have := hasN_mem.1 hf
  simp only [inFuncs, List.mem_cons, List.not_mem_nil, or_false] at this
  rcases this with rfl | rfl
  · exact fun args w => Tryd.call56 args w
  · exact fun args w => Tryd.call57 args w
theorem mixedOk : Tryd.prog.follows .mixedOrders = true := by kernel_rfl
noncomputable def k_bits_Add64 : Known Tryd.prog := ⟨carryCon 55, add64F, add64_holds Tryd.func55 (by kernel_rfl) (by kernel_rfl) (by kernel_rfl) (by kernel_rfl)⟩
theorem k_bits_Add64_f : k_bits_Add64.con.f = 55 := rfl
theorem k_bits_Add64_F (l : List Sc) : k_bits_Add64.F l = add64F l := rfl
noncomputable def k_bits_Sub64 : Known Tryd.prog := ⟨carryCon 84, sub64F, sub64_holds Tryd.func84 (by kernel_rfl) (by kernel_rfl) (by kernel_rfl) (by kernel_rfl)⟩
theorem k_bits_Sub64_f : k_bits_Sub64.con.f = 84 := rfl
theorem k_bits_Sub64_F (l : List Sc) : k_bits_Sub64.F l = sub64F l := rfl
def tk_simulatorref49_Quantile : T (List Ex) :=
 (.ite (.o .lt (.v 0) (.i 1))
 (.leaf [(.i 0), (.b false)])
 (.ite (.o .lt (.i 50) (.v 0))
 (.leaf [(.i 0), (.b false)])
 (.ite (.o .le (.v 0) (.i 30))
 (.need (.o .le (.i 0) (.v 0)) (.need (.o .lt (.v 0) (.u .len (.o .cons (.i 0) (.o .cons (.i 12706) (.o .cons (.i 4303) (.o .cons (.i 3182) (.o .cons (.i 2776) (.o .cons (.i 2571) (.o .cons (.i 2447) (.o .cons (.i 2365) (.o .cons (.i 2306) (.o .cons (.i 2262) (.o .cons (.i 2228) (.o .cons (.i 2201) (.o .cons (.i 2179) (.o .cons (.i 2160) (.o .cons (.i 2145) (.o .cons (.i 2131) (.o .cons (.i 2120) (.o .cons (.i 2110) (.o .cons (.i 2101) (.o .cons (.i 2093) (.o .cons (.i 2086) (.o .cons (.i 2080) (.o .cons (.i 2074) (.o .cons (.i 2069) (.o .cons (.i 2064) (.o .cons (.i 2060) (.o .cons (.i 2056) (.o .cons (.i 2052) (.o .cons (.i 2048) (.o .cons (.i 2045) (.o .cons (.i 2042) .nil))))))))))))))))))))))))))))))))) (.leaf [(.o .idx (.o .cons (.i 0) (.o .cons (.i 12706) (.o .cons (.i 4303) (.o .cons (.i 3182) (.o .cons (.i 2776) (.o .cons (.i 2571) (.o .cons (.i 2447) (.o .cons (.i 2365) (.o .cons (.i 2306) (.o .cons (.i 2262) (.o .cons (.i 2228) (.o .cons (.i 2201) (.o .cons (.i 2179) (.o .cons (.i 2160) (.o .cons (.i 2145) (.o .cons (.i 2131) (.o .cons (.i 2120) (.o .cons (.i 2110) (.o .cons (.i 2101) (.o .cons (.i 2093) (.o .cons (.i 2086) (.o .cons (.i 2080) (.o .cons (.i 2074) (.o .cons (.i 2069) (.o .cons (.i 2064) (.o .cons (.i 2060) (.o .cons (.i 2056) (.o .cons (.i 2052) (.o .cons (.i 2048) (.o .cons (.i 2045) (.o .cons (.i 2042) .nil))))))))))))))))))))))))))))))) (.v 0)), (.b true)])))
 (.ite (.o .le (.v 0) (.i 40))
 (.leaf [(.i 2021), (.b true)])
 (.leaf [(.i 2009), (.b true)])))))
noncomputable def k_simulatorref49_Quantile : Known Tryd.prog := known mixedOk [] (by decide) [] plTypes plOk inFuncs insOk 6 ⟨12, [(.a (.ck (.int .i64)))], (.t [(.a (.ck (.int .i64))), (.a (.ck .bool))])⟩ (fun args w => Tryd.call12 args w) tk_simulatorref49_Quantile (by kernel_rfl)
theorem k_simulatorref49_Quantile_f : k_simulatorref49_Quantile.con.f = 12 := rfl
theorem k_simulatorref49_Quantile_F (l : List Sc) : k_simulatorref49_Quantile.F l = if l.length = 1 then tk_simulatorref49_Quantile.den (gam (P := Tryd.prog) []) l [] else none := rfl
def tk_simulatorlaw49_of : T (List Ex) :=
 (.leaf [(.v 0), (.v 1)])
noncomputable def k_simulatorlaw49_of : Known Tryd.prog := known mixedOk [] (by decide) [] plTypes plOk inFuncs insOk 6 ⟨19, [(.a (.ck (.int .i64))), (.a (.ck (.int .i64)))], (.c (.g [(.ck (.int .i64)), (.ck (.int .i64))]))⟩ (fun args w => Tryd.call19 args w) tk_simulatorlaw49_of (by kernel_rfl)
theorem k_simulatorlaw49_of_f : k_simulatorlaw49_of.con.f = 19 := rfl
theorem k_simulatorlaw49_of_F (l : List Sc) : k_simulatorlaw49_of.F l = if l.length = 2 then tk_simulatorlaw49_of.den (gam (P := Tryd.prog) []) l [] else none := rfl
def tk_simulatorref02_Less : T (List Ex) :=
 (.ite (.o .lt (.v 0) (.v 2))
 (.leaf [(.b true)])
 (.ite (.o .eq (.v 0) (.v 2))
 (.leaf [(.o .lt (.v 1) (.v 3))])
 (.leaf [(.b false)])))
noncomputable def k_simulatorref02_Less : Known Tryd.prog := known mixedOk [] (by decide) [] plTypes plOk inFuncs insOk 6 ⟨22, [(.g [(.ck (.int .u64)), (.ck (.int .u64))]), (.g [(.ck (.int .u64)), (.ck (.int .u64))])], (.c (.a (.ck .bool)))⟩ (fun args w => Tryd.call22 args w) tk_simulatorref02_Less (by kernel_rfl)
theorem k_simulatorref02_Less_f : k_simulatorref02_Less.con.f = 22 := rfl
theorem k_simulatorref02_Less_F (l : List Sc) : k_simulatorref02_Less.F l = if l.length = 4 then tk_simulatorref02_Less.den (gam (P := Tryd.prog) []) l [] else none := rfl
def tk_simulatorref02_Plus : T (List Ex) :=
 (.ite (.o .lt (.o (.add .u64) (.v 1) (.v 3)) (.v 1))
 (.leaf [(.o (.add .u64) (.o (.add .u64) (.v 0) (.v 2)) (.i 1)), (.o (.add .u64) (.v 1) (.v 3))])
 (.leaf [(.o (.add .u64) (.v 0) (.v 2)), (.o (.add .u64) (.v 1) (.v 3))]))
noncomputable def k_simulatorref02_Plus : Known Tryd.prog := known mixedOk [] (by decide) [] plTypes plOk inFuncs insOk 6 ⟨32, [(.g [(.ck (.int .u64)), (.ck (.int .u64))]), (.g [(.ck (.int .u64)), (.ck (.int .u64))])], (.c (.g [(.ck (.int .u64)), (.ck (.int .u64))]))⟩ (fun args w => Tryd.call32 args w) tk_simulatorref02_Plus (by kernel_rfl)
theorem k_simulatorref02_Plus_f : k_simulatorref02_Plus.con.f = 32 := rfl
theorem k_simulatorref02_Plus_F (l : List Sc) : k_simulatorref02_Plus.F l = if l.length = 4 then tk_simulatorref02_Plus.den (gam (P := Tryd.prog) []) l [] else none := rfl
def tk_interval_size : T (List Ex) :=
 (.leaf [(.o .max (.v 0) (.o (.sub .i64) (.i 0) (.v 0))), (.v 1)])
noncomputable def k_interval_size : Known Tryd.prog := known mixedOk [] (by decide) [] plTypes plOk inFuncs insOk 6 ⟨37, [(.g [(.ck (.int .i64)), (.ck (.int .i64))])], (.c (.g [(.ck (.int .i64)), (.ck (.int .i64))]))⟩ (fun args w => Tryd.call37 args w) tk_interval_size (by kernel_rfl)
theorem k_interval_size_f : k_interval_size.con.f = 37 := rfl
theorem k_interval_size_F (l : List Sc) : k_interval_size.F l = if l.length = 2 then tk_interval_size.den (gam (P := Tryd.prog) []) l [] else none := rfl
def tk_simulatorref02_Size : T (List Ex) :=
 (.ite (.o .lt (.v 0) (.i 0))
 (.leaf [(.o (.add .u64) (.u (.conv .u64) (.o (.sub .i64) (.i 0) (.o (.add .i64) (.v 0) (.i 1)))) (.i 1))])
 (.leaf [(.u (.conv .u64) (.v 0))]))
noncomputable def k_simulatorref02_Size : Known Tryd.prog := known mixedOk [] (by decide) [] plTypes plOk inFuncs insOk 6 ⟨46, [(.a (.ck (.int .i64)))], (.c (.a (.ck (.int .u64))))⟩ (fun args w => Tryd.call46 args w) tk_simulatorref02_Size (by kernel_rfl)
theorem k_simulatorref02_Size_f : k_simulatorref02_Size.con.f = 46 := rfl
theorem k_simulatorref02_Size_F (l : List Sc) : k_simulatorref02_Size.F l = if l.length = 1 then tk_simulatorref02_Size.den (gam (P := Tryd.prog) []) l [] else none := rfl
def tk_batch_whole : T (List Ex) :=
 (.leaf [(.v 0), (.i 1)])
noncomputable def k_batch_whole : Known Tryd.prog := known mixedOk [] (by decide) [] plTypes plOk inFuncs insOk 6 ⟨52, [(.a (.ck (.int .i64)))], (.c (.g [(.ck (.int .i64)), (.ck (.int .i64))]))⟩ (fun args w => Tryd.call52 args w) tk_batch_whole (by kernel_rfl)
theorem k_batch_whole_f : k_batch_whole.con.f = 52 := rfl
theorem k_batch_whole_F (l : List Sc) : k_batch_whole.F l = if l.length = 1 then tk_batch_whole.den (gam (P := Tryd.prog) []) l [] else none := rfl
def tk_bits_Mul64 : T (List Ex) :=
 (.leaf [(.o (.add .u64) (.o (.add .u64) (.o (.mul .u64) (.o (.shr .u64) (.v 0) (.i 32)) (.o (.shr .u64) (.v 1) (.i 32))) (.o (.shr .u64) (.o (.add .u64) (.o (.mul .u64) (.o (.shr .u64) (.v 0) (.i 32)) (.o (.band .u64) (.v 1) (.i 4294967295))) (.o (.shr .u64) (.o (.mul .u64) (.o (.band .u64) (.v 0) (.i 4294967295)) (.o (.band .u64) (.v 1) (.i 4294967295))) (.i 32))) (.i 32))) (.o (.shr .u64) (.o (.add .u64) (.o (.band .u64) (.o (.add .u64) (.o (.mul .u64) (.o (.shr .u64) (.v 0) (.i 32)) (.o (.band .u64) (.v 1) (.i 4294967295))) (.o (.shr .u64) (.o (.mul .u64) (.o (.band .u64) (.v 0) (.i 4294967295)) (.o (.band .u64) (.v 1) (.i 4294967295))) (.i 32))) (.i 4294967295)) (.o (.mul .u64) (.o (.band .u64) (.v 0) (.i 4294967295)) (.o (.shr .u64) (.v 1) (.i 32)))) (.i 32))), (.o (.mul .u64) (.v 0) (.v 1))])
noncomputable def k_bits_Mul64 : Known Tryd.prog := known mixedOk [] (by decide) [] plTypes plOk inFuncs insOk 6 ⟨53, [(.a (.ck (.int .u64))), (.a (.ck (.int .u64)))], (.t [(.a (.ck (.int .u64))), (.a (.ck (.int .u64)))])⟩ (fun args w => Tryd.call53 args w) tk_bits_Mul64 (by kernel_rfl)
theorem k_bits_Mul64_f : k_bits_Mul64.con.f = 53 := rfl
theorem k_bits_Mul64_F (l : List Sc) : k_bits_Mul64.F l = if l.length = 2 then tk_bits_Mul64.den (gam (P := Tryd.prog) []) l [] else none := rfl
def tk_frac_gcd : T (List Ex) :=
 (.loop [(.v 0), (.v 1)]
 (.ite (.o .ne (.v 3) (.i 0))
 (.need (.o .ne (.v 3) (.i 0)) (.next 0 [(.v 3), (.o (.rem .u64) (.v 2) (.v 3))]))
 (.leaf [(.v 2)])))
noncomputable def k_frac_gcd : Known Tryd.prog := known mixedOk [] (by decide) [⟨5800001, [(0, 0), (1, 0)], [5, 6, 7, 8, 9, 10], [], []⟩] plTypes plOk inFuncs insOk 6 ⟨58, [(.a (.ck (.int .u64))), (.a (.ck (.int .u64)))], (.c (.a (.ck (.int .u64))))⟩ (fun args w => Tryd.call58 args w) tk_frac_gcd (by kernel_rfl)
theorem k_frac_gcd_f : k_frac_gcd.con.f = 58 := rfl
theorem k_frac_gcd_F (l : List Sc) : k_frac_gcd.F l = if l.length = 2 then tk_frac_gcd.den (gam (P := Tryd.prog) []) l [] else none := rfl
def tk_frac_size : T (List Ex) :=
 (.ite (.o .lt (.v 0) (.i 0))
 (.leaf [(.o (.sub .u64) (.i 0) (.u (.conv .u64) (.v 0)))])
 (.leaf [(.u (.conv .u64) (.v 0))]))
noncomputable def k_frac_size : Known Tryd.prog := known mixedOk [] (by decide) [] plTypes plOk inFuncs insOk 6 ⟨59, [(.a (.ck (.int .i64)))], (.c (.a (.ck (.int .u64))))⟩ (fun args w => Tryd.call59 args w) tk_frac_size (by kernel_rfl)
theorem k_frac_size_f : k_frac_size.con.f = 59 := rfl
theorem k_frac_size_F (l : List Sc) : k_frac_size.F l = if l.length = 1 then tk_frac_size.den (gam (P := Tryd.prog) []) l [] else none := rfl
def tk_frac_made : T (List Ex) :=
 (.ite (.o .lt (.i 4611686018427387904) (.v 1))
 (.leaf [(.i 0), (.i 0), (.b false)])
 (.ite (.o .lt (.i 1000000000000000) (.v 2))
 (.leaf [(.i 0), (.i 0), (.b false)])
 (.ite (.v 0)
 (.leaf [(.o (.sub .i64) (.i 0) (.u (.conv .i64) (.v 1))), (.u (.conv .i64) (.v 2)), (.b true)])
 (.leaf [(.u (.conv .i64) (.v 1)), (.u (.conv .i64) (.v 2)), (.b true)]))))
noncomputable def k_frac_made : Known Tryd.prog := known mixedOk [] (by decide) [] plTypes plOk inFuncs insOk 6 ⟨60, [(.a (.ck .bool)), (.a (.ck (.int .u64))), (.a (.ck (.int .u64)))], (.t [(.g [(.ck (.int .i64)), (.ck (.int .i64))]), (.a (.ck .bool))])⟩ (fun args w => Tryd.call60 args w) tk_frac_made (by kernel_rfl)
theorem k_frac_made_f : k_frac_made.con.f = 60 := rfl
theorem k_frac_made_F (l : List Sc) : k_frac_made.F l = if l.length = 3 then tk_frac_made.den (gam (P := Tryd.prog) []) l [] else none := rfl
def tk_simulatorref02_bit : T (List Ex) :=
 (.ite (.o .le (.i 64) (.v 2))
 (.need (.o .le (.i 0) (.u (.conv .u64) (.o (.sub .i64) (.v 2) (.i 64)))) (.leaf [(.o (.rem .u64) (.o (.shr .u64) (.v 0) (.u (.conv .u64) (.o (.sub .i64) (.v 2) (.i 64)))) (.i 2))]))
 (.need (.o .le (.i 0) (.u (.conv .u64) (.v 2))) (.leaf [(.o (.rem .u64) (.o (.shr .u64) (.v 1) (.u (.conv .u64) (.v 2))) (.i 2))])))
noncomputable def k_simulatorref02_bit : Known Tryd.prog := known mixedOk [] (by decide) [] plTypes plOk inFuncs insOk 6 ⟨65, [(.g [(.ck (.int .u64)), (.ck (.int .u64))]), (.a (.ck (.int .i64)))], (.c (.a (.ck (.int .u64))))⟩ (fun args w => Tryd.call65 args w) tk_simulatorref02_bit (by kernel_rfl)
theorem k_simulatorref02_bit_f : k_simulatorref02_bit.con.f = 65 := rfl
theorem k_simulatorref02_bit_F (l : List Sc) : k_simulatorref02_bit.F l = if l.length = 3 then tk_simulatorref02_bit.den (gam (P := Tryd.prog) []) l [] else none := rfl
def tk_simulatorref02_Minus : T (List Ex) :=
 (.ite (.o .lt (.v 1) (.v 3))
 (.leaf [(.o (.sub .u64) (.o (.sub .u64) (.v 0) (.v 2)) (.i 1)), (.o (.sub .u64) (.v 1) (.v 3))])
 (.leaf [(.o (.sub .u64) (.v 0) (.v 2)), (.o (.sub .u64) (.v 1) (.v 3))]))
noncomputable def k_simulatorref02_Minus : Known Tryd.prog := known mixedOk [] (by decide) [] plTypes plOk inFuncs insOk 6 ⟨66, [(.g [(.ck (.int .u64)), (.ck (.int .u64))]), (.g [(.ck (.int .u64)), (.ck (.int .u64))])], (.c (.g [(.ck (.int .u64)), (.ck (.int .u64))]))⟩ (fun args w => Tryd.call66 args w) tk_simulatorref02_Minus (by kernel_rfl)
theorem k_simulatorref02_Minus_f : k_simulatorref02_Minus.con.f = 66 := rfl
theorem k_simulatorref02_Minus_F (l : List Sc) : k_simulatorref02_Minus.F l = if l.length = 4 then tk_simulatorref02_Minus.den (gam (P := Tryd.prog) []) l [] else none := rfl
def tk_frac_Valid : T (List Ex) :=
 (.ite (.o .le (.i 1) (.v 1))
 (.ite (.o .le (.v 1) (.i 1000000000000000))
 (.call 59 [(.v 0)] 1
 (.ite (.o .le (.v 2) (.i 4611686018427387904))
 (.call 59 [(.v 0)] 1
 (.call 58 [(.v 3), (.u (.conv .u64) (.v 1))] 1
 (.leaf [(.o .eq (.v 4) (.i 1))])))
 (.leaf [(.b false)])))
 (.leaf [(.b false)]))
 (.leaf [(.b false)]))
noncomputable def k_frac_Valid : Known Tryd.prog := known mixedOk [k_frac_size, k_frac_gcd] (by decide) [] plTypes plOk inFuncs insOk 6 ⟨67, [(.g [(.ck (.int .i64)), (.ck (.int .i64))])], (.c (.a (.ck .bool)))⟩ (fun args w => Tryd.call67 args w) tk_frac_Valid (by kernel_rfl)
theorem k_frac_Valid_f : k_frac_Valid.con.f = 67 := rfl
theorem k_frac_Valid_F (l : List Sc) : k_frac_Valid.F l = if l.length = 2 then tk_frac_Valid.den (gam (P := Tryd.prog) [k_frac_size, k_frac_gcd]) l [] else none := rfl
def tk_frac_times : T (List Ex) :=
 (.call 53 [(.v 0), (.v 1)] 2
 (.leaf [(.v 2), (.v 3)]))
noncomputable def k_frac_times : Known Tryd.prog := known mixedOk [k_bits_Mul64] (by decide) [] plTypes plOk inFuncs insOk 6 ⟨69, [(.a (.ck (.int .u64))), (.a (.ck (.int .u64)))], (.c (.g [(.ck (.int .u64)), (.ck (.int .u64))]))⟩ (fun args w => Tryd.call69 args w) tk_frac_times (by kernel_rfl)
theorem k_frac_times_f : k_frac_times.con.f = 69 := rfl
theorem k_frac_times_F (l : List Sc) : k_frac_times.F l = if l.length = 2 then tk_frac_times.den (gam (P := Tryd.prog) [k_bits_Mul64]) l [] else none := rfl
def tk_simulatorref02_Opposite : T (List Ex) :=
 (.leaf [(.o (.sub .i64) (.i 0) (.v 0)), (.v 1)])
noncomputable def k_simulatorref02_Opposite : Known Tryd.prog := known mixedOk [] (by decide) [] plTypes plOk inFuncs insOk 6 ⟨70, [(.g [(.ck (.int .i64)), (.ck (.int .i64))])], (.c (.g [(.ck (.int .i64)), (.ck (.int .i64))]))⟩ (fun args w => Tryd.call70 args w) tk_simulatorref02_Opposite (by kernel_rfl)
theorem k_simulatorref02_Opposite_f : k_simulatorref02_Opposite.con.f = 70 := rfl
theorem k_simulatorref02_Opposite_F (l : List Sc) : k_simulatorref02_Opposite.F l = if l.length = 2 then tk_simulatorref02_Opposite.den (gam (P := Tryd.prog) []) l [] else none := rfl
def tk_simulatorref02_Both : T (List Ex) :=
 (.ite (.o .beq (.v 0) (.v 3))
 (.call 32 [(.v 1), (.v 2), (.v 4), (.v 5)] 2
 (.leaf [(.v 0), (.v 6), (.v 7)]))
 (.call 22 [(.v 1), (.v 2), (.v 4), (.v 5)] 1
 (.ite (.v 6)
 (.call 66 [(.v 4), (.v 5), (.v 1), (.v 2)] 2
 (.leaf [(.v 3), (.v 7), (.v 8)]))
 (.call 66 [(.v 1), (.v 2), (.v 4), (.v 5)] 2
 (.leaf [(.v 0), (.v 7), (.v 8)])))))
noncomputable def k_simulatorref02_Both : Known Tryd.prog := known mixedOk [k_simulatorref02_Plus, k_simulatorref02_Less, k_simulatorref02_Minus] (by decide) [] plTypes plOk inFuncs insOk 6 ⟨73, [(.g [(.ck .bool), (.ck (.int .u64)), (.ck (.int .u64))]), (.g [(.ck .bool), (.ck (.int .u64)), (.ck (.int .u64))])], (.c (.g [(.ck .bool), (.ck (.int .u64)), (.ck (.int .u64))]))⟩ (fun args w => Tryd.call73 args w) tk_simulatorref02_Both (by kernel_rfl)
theorem k_simulatorref02_Both_f : k_simulatorref02_Both.con.f = 73 := rfl
theorem k_simulatorref02_Both_F (l : List Sc) : k_simulatorref02_Both.F l = if l.length = 6 then tk_simulatorref02_Both.den (gam (P := Tryd.prog) [k_simulatorref02_Plus, k_simulatorref02_Less, k_simulatorref02_Minus]) l [] else none := rfl
def tk_frac_product : T (List Ex) :=
 (.call 58 [(.v 1), (.v 4)] 1
 (.call 58 [(.v 3), (.v 2)] 1
 (.need (.o .ne (.v 5) (.i 0)) (.need (.o .ne (.v 6) (.i 0)) (.call 69 [(.o (.quo .u64) (.v 1) (.v 5)), (.o (.quo .u64) (.v 3) (.v 6))] 2
 (.need (.o .ne (.v 6) (.i 0)) (.need (.o .ne (.v 5) (.i 0)) (.call 69 [(.o (.quo .u64) (.v 2) (.v 6)), (.o (.quo .u64) (.v 4) (.v 5))] 2
 (.ite (.o .ne (.v 7) (.i 0))
 (.leaf [(.i 0), (.i 0), (.b false)])
 (.ite (.o .ne (.v 9) (.i 0))
 (.leaf [(.i 0), (.i 0), (.b false)])
 (.ite (.v 0)
 (.call 60 [(.o .ne (.v 8) (.i 0)), (.v 8), (.v 10)] 3
 (.leaf [(.v 11), (.v 12), (.v 13)]))
 (.call 60 [(.b false), (.v 8), (.v 10)] 3
 (.leaf [(.v 11), (.v 12), (.v 13)])))))))))))))
noncomputable def k_frac_product : Known Tryd.prog := known mixedOk [k_frac_gcd, k_frac_times, k_frac_made] (by decide) [] plTypes plOk inFuncs insOk 6 ⟨75, [(.a (.ck .bool)), (.a (.ck (.int .u64))), (.a (.ck (.int .u64))), (.a (.ck (.int .u64))), (.a (.ck (.int .u64)))], (.t [(.g [(.ck (.int .i64)), (.ck (.int .i64))]), (.a (.ck .bool))])⟩ (fun args w => Tryd.call75 args w) tk_frac_product (by kernel_rfl)
theorem k_frac_product_f : k_frac_product.con.f = 75 := rfl
theorem k_frac_product_F (l : List Sc) : k_frac_product.F l = if l.length = 5 then tk_frac_product.den (gam (P := Tryd.prog) [k_frac_gcd, k_frac_times, k_frac_made]) l [] else none := rfl
def tk_frac_wide_plus : T (List Ex) :=
 (.call 55 [(.v 1), (.v 3), (.i 0)] 2
 (.call 55 [(.v 0), (.v 2), (.v 5)] 2
 (.leaf [(.v 6), (.v 4)])))
noncomputable def k_frac_wide_plus : Known Tryd.prog := known mixedOk [k_bits_Add64] (by decide) [] plTypes plOk inFuncs insOk 6 ⟨81, [(.g [(.ck (.int .u64)), (.ck (.int .u64))]), (.g [(.ck (.int .u64)), (.ck (.int .u64))])], (.c (.g [(.ck (.int .u64)), (.ck (.int .u64))]))⟩ (fun args w => Tryd.call81 args w) tk_frac_wide_plus (by kernel_rfl)
theorem k_frac_wide_plus_f : k_frac_wide_plus.con.f = 81 := rfl
theorem k_frac_wide_plus_F (l : List Sc) : k_frac_wide_plus.F l = if l.length = 4 then tk_frac_wide_plus.den (gam (P := Tryd.prog) [k_bits_Add64]) l [] else none := rfl
def tk_frac_wide_minus : T (List Ex) :=
 (.ite (.o .lt (.v 0) (.v 2))
 (.call 82 [(.v 2), (.v 3), (.v 0), (.v 1)] 3
 (.leaf [(.v 4), (.v 5), (.b true)]))
 (.ite (.o .eq (.v 0) (.v 2))
 (.ite (.o .lt (.v 1) (.v 3))
 (.call 82 [(.v 2), (.v 3), (.v 0), (.v 1)] 3
 (.leaf [(.v 4), (.v 5), (.b true)]))
 (.call 84 [(.v 1), (.v 3), (.i 0)] 2
 (.call 84 [(.v 0), (.v 2), (.v 5)] 2
 (.leaf [(.v 6), (.v 4), (.b false)]))))
 (.call 84 [(.v 1), (.v 3), (.i 0)] 2
 (.call 84 [(.v 0), (.v 2), (.v 5)] 2
 (.leaf [(.v 6), (.v 4), (.b false)])))))
noncomputable def k_frac_wide_minus_rec0 : Nat → {k : Known Tryd.prog // k.con = ⟨82, [(.g [(.ck (.int .u64)), (.ck (.int .u64))]), (.g [(.ck (.int .u64)), (.ck (.int .u64))])], (.t [(.g [(.ck (.int .u64)), (.ck (.int .u64))]), (.a (.ck .bool))])⟩} := knownRec mixedOk [k_bits_Sub64] ⟨82, [(.g [(.ck (.int .u64)), (.ck (.int .u64))]), (.g [(.ck (.int .u64)), (.ck (.int .u64))])], (.t [(.g [(.ck (.int .u64)), (.ck (.int .u64))]), (.a (.ck .bool))])⟩ (by decide) [] plTypes plOk inFuncs insOk 6 (fun args w => Tryd.call82 args w) tk_frac_wide_minus (by kernel_rfl)
noncomputable def k_frac_wide_minus_rec (n : Nat) : Known Tryd.prog := (k_frac_wide_minus_rec0 n).1
theorem k_frac_wide_minus_rec_con (n : Nat) : (k_frac_wide_minus_rec n).con = ⟨82, [(.g [(.ck (.int .u64)), (.ck (.int .u64))]), (.g [(.ck (.int .u64)), (.ck (.int .u64))])], (.t [(.g [(.ck (.int .u64)), (.ck (.int .u64))]), (.a (.ck .bool))])⟩ := (k_frac_wide_minus_rec0 n).2
theorem k_frac_wide_minus_rec_f (n : Nat) : (k_frac_wide_minus_rec n).con.f = 82 := by rw [k_frac_wide_minus_rec_con]
theorem k_frac_wide_minus_rec_F (n : Nat) (l : List Sc) : (k_frac_wide_minus_rec (n + 1)).F l = if l.length = 4 then tk_frac_wide_minus.den (gam (P := Tryd.prog) (k_frac_wide_minus_rec n :: [k_bits_Sub64])) l [] else none := rfl
noncomputable def k_frac_wide_minus : Known Tryd.prog := ⟨⟨82, [(.g [(.ck (.int .u64)), (.ck (.int .u64))]), (.g [(.ck (.int .u64)), (.ck (.int .u64))])], (.t [(.g [(.ck (.int .u64)), (.ck (.int .u64))]), (.a (.ck .bool))])⟩, (k_frac_wide_minus_rec rounds).F, by rw [← k_frac_wide_minus_rec_con rounds]; exact (k_frac_wide_minus_rec rounds).holds⟩
theorem k_frac_wide_minus_f : k_frac_wide_minus.con.f = 82 := rfl
theorem k_frac_wide_minus_F (l : List Sc) : k_frac_wide_minus.F l = (k_frac_wide_minus_rec rounds).F l := rfl
def tk_bits_Len64 : T (List Ex) :=
 (.ite (.o .le (.i 4294967296) (.v 0))
 (.ite (.o .le (.i 65536) (.o (.shr .u64) (.v 0) (.i 32)))
 (.ite (.o .le (.i 256) (.o (.shr .u64) (.o (.shr .u64) (.v 0) (.i 32)) (.i 16)))
 (.need (.o .le (.i 0) (.u (.conv .u8) (.o (.shr .u64) (.o (.shr .u64) (.o (.shr .u64) (.v 0) (.i 32)) (.i 16)) (.i 8)))) (.need (.o .lt (.u (.conv .u8) (.o (.shr .u64) (.o (.shr .u64) (.o (.shr .u64) (.v 0) (.i 32)) (.i 16)) (.i 8))) (.u .slen (.s [0, 1, 2, 2, 3, 3, 3, 3, 4, 4, 4, 4, 4, 4, 4, 4, 5, 5, 5, 5, 5, 5, 5, 5, 5, 5, 5, 5, 5, 5, 5, 5, 6, 6, 6, 6, 6, 6, 6, 6, 6, 6, 6, 6, 6, 6, 6, 6, 6, 6, 6, 6, 6, 6, 6, 6, 6, 6, 6, 6, 6, 6, 6, 6, 7, 7, 7, 7, 7, 7, 7, 7, 7, 7, 7, 7, 7, 7, 7, 7, 7, 7, 7, 7, 7, 7, 7, 7, 7, 7, 7, 7, 7, 7, 7, 7, 7, 7, 7, 7, 7, 7, 7, 7, 7, 7, 7, 7, 7, 7, 7, 7, 7, 7, 7, 7, 7, 7, 7, 7, 7, 7, 7, 7, 7, 7, 7, 7, 8, 8, 8, 8, 8, 8, 8, 8, 8, 8, 8, 8, 8, 8, 8, 8, 8, 8, 8, 8, 8, 8, 8, 8, 8, 8, 8, 8, 8, 8, 8, 8, 8, 8, 8, 8, 8, 8, 8, 8, 8, 8, 8, 8, 8, 8, 8, 8, 8, 8, 8, 8, 8, 8, 8, 8, 8, 8, 8, 8, 8, 8, 8, 8, 8, 8, 8, 8, 8, 8, 8, 8, 8, 8, 8, 8, 8, 8, 8, 8, 8, 8, 8, 8, 8, 8, 8, 8, 8, 8, 8, 8, 8, 8, 8, 8, 8, 8, 8, 8, 8, 8, 8, 8, 8, 8, 8, 8, 8, 8, 8, 8, 8, 8, 8, 8, 8, 8, 8, 8, 8, 8, 8, 8, 8, 8, 8, 8]))) (.leaf [(.o (.add .i64) (.i 56) (.u (.conv .i64) (.o .sidx (.s [0, 1, 2, 2, 3, 3, 3, 3, 4, 4, 4, 4, 4, 4, 4, 4, 5, 5, 5, 5, 5, 5, 5, 5, 5, 5, 5, 5, 5, 5, 5, 5, 6, 6, 6, 6, 6, 6, 6, 6, 6, 6, 6, 6, 6, 6, 6, 6, 6, 6, 6, 6, 6, 6, 6, 6, 6, 6, 6, 6, 6, 6, 6, 6, 7, 7, 7, 7, 7, 7, 7, 7, 7, 7, 7, 7, 7, 7, 7, 7, 7, 7, 7, 7, 7, 7, 7, 7, 7, 7, 7, 7, 7, 7, 7, 7, 7, 7, 7, 7, 7, 7, 7, 7, 7, 7, 7, 7, 7, 7, 7, 7, 7, 7, 7, 7, 7, 7, 7, 7, 7, 7, 7, 7, 7, 7, 7, 7, 8, 8, 8, 8, 8, 8, 8, 8, 8, 8, 8, 8, 8, 8, 8, 8, 8, 8, 8, 8, 8, 8, 8, 8, 8, 8, 8, 8, 8, 8, 8, 8, 8, 8, 8, 8, 8, 8, 8, 8, 8, 8, 8, 8, 8, 8, 8, 8, 8, 8, 8, 8, 8, 8, 8, 8, 8, 8, 8, 8, 8, 8, 8, 8, 8, 8, 8, 8, 8, 8, 8, 8, 8, 8, 8, 8, 8, 8, 8, 8, 8, 8, 8, 8, 8, 8, 8, 8, 8, 8, 8, 8, 8, 8, 8, 8, 8, 8, 8, 8, 8, 8, 8, 8, 8, 8, 8, 8, 8, 8, 8, 8, 8, 8, 8, 8, 8, 8, 8, 8, 8, 8, 8, 8, 8, 8, 8, 8]) (.u (.conv .u8) (.o (.shr .u64) (.o (.shr .u64) (.o (.shr .u64) (.v 0) (.i 32)) (.i 16)) (.i 8))))))])))
 (.need (.o .le (.i 0) (.u (.conv .u8) (.o (.shr .u64) (.o (.shr .u64) (.v 0) (.i 32)) (.i 16)))) (.need (.o .lt (.u (.conv .u8) (.o (.shr .u64) (.o (.shr .u64) (.v 0) (.i 32)) (.i 16))) (.u .slen (.s [0, 1, 2, 2, 3, 3, 3, 3, 4, 4, 4, 4, 4, 4, 4, 4, 5, 5, 5, 5, 5, 5, 5, 5, 5, 5, 5, 5, 5, 5, 5, 5, 6, 6, 6, 6, 6, 6, 6, 6, 6, 6, 6, 6, 6, 6, 6, 6, 6, 6, 6, 6, 6, 6, 6, 6, 6, 6, 6, 6, 6, 6, 6, 6, 7, 7, 7, 7, 7, 7, 7, 7, 7, 7, 7, 7, 7, 7, 7, 7, 7, 7, 7, 7, 7, 7, 7, 7, 7, 7, 7, 7, 7, 7, 7, 7, 7, 7, 7, 7, 7, 7, 7, 7, 7, 7, 7, 7, 7, 7, 7, 7, 7, 7, 7, 7, 7, 7, 7, 7, 7, 7, 7, 7, 7, 7, 7, 7, 8, 8, 8, 8, 8, 8, 8, 8, 8, 8, 8, 8, 8, 8, 8, 8, 8, 8, 8, 8, 8, 8, 8, 8, 8, 8, 8, 8, 8, 8, 8, 8, 8, 8, 8, 8, 8, 8, 8, 8, 8, 8, 8, 8, 8, 8, 8, 8, 8, 8, 8, 8, 8, 8, 8, 8, 8, 8, 8, 8, 8, 8, 8, 8, 8, 8, 8, 8, 8, 8, 8, 8, 8, 8, 8, 8, 8, 8, 8, 8, 8, 8, 8, 8, 8, 8, 8, 8, 8, 8, 8, 8, 8, 8, 8, 8, 8, 8, 8, 8, 8, 8, 8, 8, 8, 8, 8, 8, 8, 8, 8, 8, 8, 8, 8, 8, 8, 8, 8, 8, 8, 8, 8, 8, 8, 8, 8, 8]))) (.leaf [(.o (.add .i64) (.i 48) (.u (.conv .i64) (.o .sidx (.s [0, 1, 2, 2, 3, 3, 3, 3, 4, 4, 4, 4, 4, 4, 4, 4, 5, 5, 5, 5, 5, 5, 5, 5, 5, 5, 5, 5, 5, 5, 5, 5, 6, 6, 6, 6, 6, 6, 6, 6, 6, 6, 6, 6, 6, 6, 6, 6, 6, 6, 6, 6, 6, 6, 6, 6, 6, 6, 6, 6, 6, 6, 6, 6, 7, 7, 7, 7, 7, 7, 7, 7, 7, 7, 7, 7, 7, 7, 7, 7, 7, 7, 7, 7, 7, 7, 7, 7, 7, 7, 7, 7, 7, 7, 7, 7, 7, 7, 7, 7, 7, 7, 7, 7, 7, 7, 7, 7, 7, 7, 7, 7, 7, 7, 7, 7, 7, 7, 7, 7, 7, 7, 7, 7, 7, 7, 7, 7, 8, 8, 8, 8, 8, 8, 8, 8, 8, 8, 8, 8, 8, 8, 8, 8, 8, 8, 8, 8, 8, 8, 8, 8, 8, 8, 8, 8, 8, 8, 8, 8, 8, 8, 8, 8, 8, 8, 8, 8, 8, 8, 8, 8, 8, 8, 8, 8, 8, 8, 8, 8, 8, 8, 8, 8, 8, 8, 8, 8, 8, 8, 8, 8, 8, 8, 8, 8, 8, 8, 8, 8, 8, 8, 8, 8, 8, 8, 8, 8, 8, 8, 8, 8, 8, 8, 8, 8, 8, 8, 8, 8, 8, 8, 8, 8, 8, 8, 8, 8, 8, 8, 8, 8, 8, 8, 8, 8, 8, 8, 8, 8, 8, 8, 8, 8, 8, 8, 8, 8, 8, 8, 8, 8, 8, 8, 8, 8]) (.u (.conv .u8) (.o (.shr .u64) (.o (.shr .u64) (.v 0) (.i 32)) (.i 16))))))]))))
 (.ite (.o .le (.i 256) (.o (.shr .u64) (.v 0) (.i 32)))
 (.need (.o .le (.i 0) (.u (.conv .u8) (.o (.shr .u64) (.o (.shr .u64) (.v 0) (.i 32)) (.i 8)))) (.need (.o .lt (.u (.conv .u8) (.o (.shr .u64) (.o (.shr .u64) (.v 0) (.i 32)) (.i 8))) (.u .slen (.s [0, 1, 2, 2, 3, 3, 3, 3, 4, 4, 4, 4, 4, 4, 4, 4, 5, 5, 5, 5, 5, 5, 5, 5, 5, 5, 5, 5, 5, 5, 5, 5, 6, 6, 6, 6, 6, 6, 6, 6, 6, 6, 6, 6, 6, 6, 6, 6, 6, 6, 6, 6, 6, 6, 6, 6, 6, 6, 6, 6, 6, 6, 6, 6, 7, 7, 7, 7, 7, 7, 7, 7, 7, 7, 7, 7, 7, 7, 7, 7, 7, 7, 7, 7, 7, 7, 7, 7, 7, 7, 7, 7, 7, 7, 7, 7, 7, 7, 7, 7, 7, 7, 7, 7, 7, 7, 7, 7, 7, 7, 7, 7, 7, 7, 7, 7, 7, 7, 7, 7, 7, 7, 7, 7, 7, 7, 7, 7, 8, 8, 8, 8, 8, 8, 8, 8, 8, 8, 8, 8, 8, 8, 8, 8, 8, 8, 8, 8, 8, 8, 8, 8, 8, 8, 8, 8, 8, 8, 8, 8, 8, 8, 8, 8, 8, 8, 8, 8, 8, 8, 8, 8, 8, 8, 8, 8, 8, 8, 8, 8, 8, 8, 8, 8, 8, 8, 8, 8, 8, 8, 8, 8, 8, 8, 8, 8, 8, 8, 8, 8, 8, 8, 8, 8, 8, 8, 8, 8, 8, 8, 8, 8, 8, 8, 8, 8, 8, 8, 8, 8, 8, 8, 8, 8, 8, 8, 8, 8, 8, 8, 8, 8, 8, 8, 8, 8, 8, 8, 8, 8, 8, 8, 8, 8, 8, 8, 8, 8, 8, 8, 8, 8, 8, 8, 8, 8]))) (.leaf [(.o (.add .i64) (.i 40) (.u (.conv .i64) (.o .sidx (.s [0, 1, 2, 2, 3, 3, 3, 3, 4, 4, 4, 4, 4, 4, 4, 4, 5, 5, 5, 5, 5, 5, 5, 5, 5, 5, 5, 5, 5, 5, 5, 5, 6, 6, 6, 6, 6, 6, 6, 6, 6, 6, 6, 6, 6, 6, 6, 6, 6, 6, 6, 6, 6, 6, 6, 6, 6, 6, 6, 6, 6, 6, 6, 6, 7, 7, 7, 7, 7, 7, 7, 7, 7, 7, 7, 7, 7, 7, 7, 7, 7, 7, 7, 7, 7, 7, 7, 7, 7, 7, 7, 7, 7, 7, 7, 7, 7, 7, 7, 7, 7, 7, 7, 7, 7, 7, 7, 7, 7, 7, 7, 7, 7, 7, 7, 7, 7, 7, 7, 7, 7, 7, 7, 7, 7, 7, 7, 7, 8, 8, 8, 8, 8, 8, 8, 8, 8, 8, 8, 8, 8, 8, 8, 8, 8, 8, 8, 8, 8, 8, 8, 8, 8, 8, 8, 8, 8, 8, 8, 8, 8, 8, 8, 8, 8, 8, 8, 8, 8, 8, 8, 8, 8, 8, 8, 8, 8, 8, 8, 8, 8, 8, 8, 8, 8, 8, 8, 8, 8, 8, 8, 8, 8, 8, 8, 8, 8, 8, 8, 8, 8, 8, 8, 8, 8, 8, 8, 8, 8, 8, 8, 8, 8, 8, 8, 8, 8, 8, 8, 8, 8, 8, 8, 8, 8, 8, 8, 8, 8, 8, 8, 8, 8, 8, 8, 8, 8, 8, 8, 8, 8, 8, 8, 8, 8, 8, 8, 8, 8, 8, 8, 8, 8, 8, 8, 8]) (.u (.conv .u8) (.o (.shr .u64) (.o (.shr .u64) (.v 0) (.i 32)) (.i 8))))))])))
 (.need (.o .le (.i 0) (.u (.conv .u8) (.o (.shr .u64) (.v 0) (.i 32)))) (.need (.o .lt (.u (.conv .u8) (.o (.shr .u64) (.v 0) (.i 32))) (.u .slen (.s [0, 1, 2, 2, 3, 3, 3, 3, 4, 4, 4, 4, 4, 4, 4, 4, 5, 5, 5, 5, 5, 5, 5, 5, 5, 5, 5, 5, 5, 5, 5, 5, 6, 6, 6, 6, 6, 6, 6, 6, 6, 6, 6, 6, 6, 6, 6, 6, 6, 6, 6, 6, 6, 6, 6, 6, 6, 6, 6, 6, 6, 6, 6, 6, 7, 7, 7, 7, 7, 7, 7, 7, 7, 7, 7, 7, 7, 7, 7, 7, 7, 7, 7, 7, 7, 7, 7, 7, 7, 7, 7, 7, 7, 7, 7, 7, 7, 7, 7, 7, 7, 7, 7, 7, 7, 7, 7, 7, 7, 7, 7, 7, 7, 7, 7, 7, 7, 7, 7, 7, 7, 7, 7, 7, 7, 7, 7, 7, 8, 8, 8, 8, 8, 8, 8, 8, 8, 8, 8, 8, 8, 8, 8, 8, 8, 8, 8, 8, 8, 8, 8, 8, 8, 8, 8, 8, 8, 8, 8, 8, 8, 8, 8, 8, 8, 8, 8, 8, 8, 8, 8, 8, 8, 8, 8, 8, 8, 8, 8, 8, 8, 8, 8, 8, 8, 8, 8, 8, 8, 8, 8, 8, 8, 8, 8, 8, 8, 8, 8, 8, 8, 8, 8, 8, 8, 8, 8, 8, 8, 8, 8, 8, 8, 8, 8, 8, 8, 8, 8, 8, 8, 8, 8, 8, 8, 8, 8, 8, 8, 8, 8, 8, 8, 8, 8, 8, 8, 8, 8, 8, 8, 8, 8, 8, 8, 8, 8, 8, 8, 8, 8, 8, 8, 8, 8, 8]))) (.leaf [(.o (.add .i64) (.i 32) (.u (.conv .i64) (.o .sidx (.s [0, 1, 2, 2, 3, 3, 3, 3, 4, 4, 4, 4, 4, 4, 4, 4, 5, 5, 5, 5, 5, 5, 5, 5, 5, 5, 5, 5, 5, 5, 5, 5, 6, 6, 6, 6, 6, 6, 6, 6, 6, 6, 6, 6, 6, 6, 6, 6, 6, 6, 6, 6, 6, 6, 6, 6, 6, 6, 6, 6, 6, 6, 6, 6, 7, 7, 7, 7, 7, 7, 7, 7, 7, 7, 7, 7, 7, 7, 7, 7, 7, 7, 7, 7, 7, 7, 7, 7, 7, 7, 7, 7, 7, 7, 7, 7, 7, 7, 7, 7, 7, 7, 7, 7, 7, 7, 7, 7, 7, 7, 7, 7, 7, 7, 7, 7, 7, 7, 7, 7, 7, 7, 7, 7, 7, 7, 7, 7, 8, 8, 8, 8, 8, 8, 8, 8, 8, 8, 8, 8, 8, 8, 8, 8, 8, 8, 8, 8, 8, 8, 8, 8, 8, 8, 8, 8, 8, 8, 8, 8, 8, 8, 8, 8, 8, 8, 8, 8, 8, 8, 8, 8, 8, 8, 8, 8, 8, 8, 8, 8, 8, 8, 8, 8, 8, 8, 8, 8, 8, 8, 8, 8, 8, 8, 8, 8, 8, 8, 8, 8, 8, 8, 8, 8, 8, 8, 8, 8, 8, 8, 8, 8, 8, 8, 8, 8, 8, 8, 8, 8, 8, 8, 8, 8, 8, 8, 8, 8, 8, 8, 8, 8, 8, 8, 8, 8, 8, 8, 8, 8, 8, 8, 8, 8, 8, 8, 8, 8, 8, 8, 8, 8, 8, 8, 8, 8]) (.u (.conv .u8) (.o (.shr .u64) (.v 0) (.i 32))))))])))))
 (.ite (.o .le (.i 65536) (.v 0))
 (.ite (.o .le (.i 256) (.o (.shr .u64) (.v 0) (.i 16)))
 (.need (.o .le (.i 0) (.u (.conv .u8) (.o (.shr .u64) (.o (.shr .u64) (.v 0) (.i 16)) (.i 8)))) (.need (.o .lt (.u (.conv .u8) (.o (.shr .u64) (.o (.shr .u64) (.v 0) (.i 16)) (.i 8))) (.u .slen (.s [0, 1, 2, 2, 3, 3, 3, 3, 4, 4, 4, 4, 4, 4, 4, 4, 5, 5, 5, 5, 5, 5, 5, 5, 5, 5, 5, 5, 5, 5, 5, 5, 6, 6, 6, 6, 6, 6, 6, 6, 6, 6, 6, 6, 6, 6, 6, 6, 6, 6, 6, 6, 6, 6, 6, 6, 6, 6, 6, 6, 6, 6, 6, 6, 7, 7, 7, 7, 7, 7, 7, 7, 7, 7, 7, 7, 7, 7, 7, 7, 7, 7, 7, 7, 7, 7, 7, 7, 7, 7, 7, 7, 7, 7, 7, 7, 7, 7, 7, 7, 7, 7, 7, 7, 7, 7, 7, 7, 7, 7, 7, 7, 7, 7, 7, 7, 7, 7, 7, 7, 7, 7, 7, 7, 7, 7, 7, 7, 8, 8, 8, 8, 8, 8, 8, 8, 8, 8, 8, 8, 8, 8, 8, 8, 8, 8, 8, 8, 8, 8, 8, 8, 8, 8, 8, 8, 8, 8, 8, 8, 8, 8, 8, 8, 8, 8, 8, 8, 8, 8, 8, 8, 8, 8, 8, 8, 8, 8, 8, 8, 8, 8, 8, 8, 8, 8, 8, 8, 8, 8, 8, 8, 8, 8, 8, 8, 8, 8, 8, 8, 8, 8, 8, 8, 8, 8, 8, 8, 8, 8, 8, 8, 8, 8, 8, 8, 8, 8, 8, 8, 8, 8, 8, 8, 8, 8, 8, 8, 8, 8, 8, 8, 8, 8, 8, 8, 8, 8, 8, 8, 8, 8, 8, 8, 8, 8, 8, 8, 8, 8, 8, 8, 8, 8, 8, 8]))) (.leaf [(.o (.add .i64) (.i 24) (.u (.conv .i64) (.o .sidx (.s [0, 1, 2, 2, 3, 3, 3, 3, 4, 4, 4, 4, 4, 4, 4, 4, 5, 5, 5, 5, 5, 5, 5, 5, 5, 5, 5, 5, 5, 5, 5, 5, 6, 6, 6, 6, 6, 6, 6, 6, 6, 6, 6, 6, 6, 6, 6, 6, 6, 6, 6, 6, 6, 6, 6, 6, 6, 6, 6, 6, 6, 6, 6, 6, 7, 7, 7, 7, 7, 7, 7, 7, 7, 7, 7, 7, 7, 7, 7, 7, 7, 7, 7, 7, 7, 7, 7, 7, 7, 7, 7, 7, 7, 7, 7, 7, 7, 7, 7, 7, 7, 7, 7, 7, 7, 7, 7, 7, 7, 7, 7, 7, 7, 7, 7, 7, 7, 7, 7, 7, 7, 7, 7, 7, 7, 7, 7, 7, 8, 8, 8, 8, 8, 8, 8, 8, 8, 8, 8, 8, 8, 8, 8, 8, 8, 8, 8, 8, 8, 8, 8, 8, 8, 8, 8, 8, 8, 8, 8, 8, 8, 8, 8, 8, 8, 8, 8, 8, 8, 8, 8, 8, 8, 8, 8, 8, 8, 8, 8, 8, 8, 8, 8, 8, 8, 8, 8, 8, 8, 8, 8, 8, 8, 8, 8, 8, 8, 8, 8, 8, 8, 8, 8, 8, 8, 8, 8, 8, 8, 8, 8, 8, 8, 8, 8, 8, 8, 8, 8, 8, 8, 8, 8, 8, 8, 8, 8, 8, 8, 8, 8, 8, 8, 8, 8, 8, 8, 8, 8, 8, 8, 8, 8, 8, 8, 8, 8, 8, 8, 8, 8, 8, 8, 8, 8, 8]) (.u (.conv .u8) (.o (.shr .u64) (.o (.shr .u64) (.v 0) (.i 16)) (.i 8))))))])))
 (.need (.o .le (.i 0) (.u (.conv .u8) (.o (.shr .u64) (.v 0) (.i 16)))) (.need (.o .lt (.u (.conv .u8) (.o (.shr .u64) (.v 0) (.i 16))) (.u .slen (.s [0, 1, 2, 2, 3, 3, 3, 3, 4, 4, 4, 4, 4, 4, 4, 4, 5, 5, 5, 5, 5, 5, 5, 5, 5, 5, 5, 5, 5, 5, 5, 5, 6, 6, 6, 6, 6, 6, 6, 6, 6, 6, 6, 6, 6, 6, 6, 6, 6, 6, 6, 6, 6, 6, 6, 6, 6, 6, 6, 6, 6, 6, 6, 6, 7, 7, 7, 7, 7, 7, 7, 7, 7, 7, 7, 7, 7, 7, 7, 7, 7, 7, 7, 7, 7, 7, 7, 7, 7, 7, 7, 7, 7, 7, 7, 7, 7, 7, 7, 7, 7, 7, 7, 7, 7, 7, 7, 7, 7, 7, 7, 7, 7, 7, 7, 7, 7, 7, 7, 7, 7, 7, 7, 7, 7, 7, 7, 7, 8, 8, 8, 8, 8, 8, 8, 8, 8, 8, 8, 8, 8, 8, 8, 8, 8, 8, 8, 8, 8, 8, 8, 8, 8, 8, 8, 8, 8, 8, 8, 8, 8, 8, 8, 8, 8, 8, 8, 8, 8, 8, 8, 8, 8, 8, 8, 8, 8, 8, 8, 8, 8, 8, 8, 8, 8, 8, 8, 8, 8, 8, 8, 8, 8, 8, 8, 8, 8, 8, 8, 8, 8, 8, 8, 8, 8, 8, 8, 8, 8, 8, 8, 8, 8, 8, 8, 8, 8, 8, 8, 8, 8, 8, 8, 8, 8, 8, 8, 8, 8, 8, 8, 8, 8, 8, 8, 8, 8, 8, 8, 8, 8, 8, 8, 8, 8, 8, 8, 8, 8, 8, 8, 8, 8, 8, 8, 8]))) (.leaf [(.o (.add .i64) (.i 16) (.u (.conv .i64) (.o .sidx (.s [0, 1, 2, 2, 3, 3, 3, 3, 4, 4, 4, 4, 4, 4, 4, 4, 5, 5, 5, 5, 5, 5, 5, 5, 5, 5, 5, 5, 5, 5, 5, 5, 6, 6, 6, 6, 6, 6, 6, 6, 6, 6, 6, 6, 6, 6, 6, 6, 6, 6, 6, 6, 6, 6, 6, 6, 6, 6, 6, 6, 6, 6, 6, 6, 7, 7, 7, 7, 7, 7, 7, 7, 7, 7, 7, 7, 7, 7, 7, 7, 7, 7, 7, 7, 7, 7, 7, 7, 7, 7, 7, 7, 7, 7, 7, 7, 7, 7, 7, 7, 7, 7, 7, 7, 7, 7, 7, 7, 7, 7, 7, 7, 7, 7, 7, 7, 7, 7, 7, 7, 7, 7, 7, 7, 7, 7, 7, 7, 8, 8, 8, 8, 8, 8, 8, 8, 8, 8, 8, 8, 8, 8, 8, 8, 8, 8, 8, 8, 8, 8, 8, 8, 8, 8, 8, 8, 8, 8, 8, 8, 8, 8, 8, 8, 8, 8, 8, 8, 8, 8, 8, 8, 8, 8, 8, 8, 8, 8, 8, 8, 8, 8, 8, 8, 8, 8, 8, 8, 8, 8, 8, 8, 8, 8, 8, 8, 8, 8, 8, 8, 8, 8, 8, 8, 8, 8, 8, 8, 8, 8, 8, 8, 8, 8, 8, 8, 8, 8, 8, 8, 8, 8, 8, 8, 8, 8, 8, 8, 8, 8, 8, 8, 8, 8, 8, 8, 8, 8, 8, 8, 8, 8, 8, 8, 8, 8, 8, 8, 8, 8, 8, 8, 8, 8, 8, 8]) (.u (.conv .u8) (.o (.shr .u64) (.v 0) (.i 16))))))]))))
 (.ite (.o .le (.i 256) (.v 0))
 (.need (.o .le (.i 0) (.u (.conv .u8) (.o (.shr .u64) (.v 0) (.i 8)))) (.need (.o .lt (.u (.conv .u8) (.o (.shr .u64) (.v 0) (.i 8))) (.u .slen (.s [0, 1, 2, 2, 3, 3, 3, 3, 4, 4, 4, 4, 4, 4, 4, 4, 5, 5, 5, 5, 5, 5, 5, 5, 5, 5, 5, 5, 5, 5, 5, 5, 6, 6, 6, 6, 6, 6, 6, 6, 6, 6, 6, 6, 6, 6, 6, 6, 6, 6, 6, 6, 6, 6, 6, 6, 6, 6, 6, 6, 6, 6, 6, 6, 7, 7, 7, 7, 7, 7, 7, 7, 7, 7, 7, 7, 7, 7, 7, 7, 7, 7, 7, 7, 7, 7, 7, 7, 7, 7, 7, 7, 7, 7, 7, 7, 7, 7, 7, 7, 7, 7, 7, 7, 7, 7, 7, 7, 7, 7, 7, 7, 7, 7, 7, 7, 7, 7, 7, 7, 7, 7, 7, 7, 7, 7, 7, 7, 8, 8, 8, 8, 8, 8, 8, 8, 8, 8, 8, 8, 8, 8, 8, 8, 8, 8, 8, 8, 8, 8, 8, 8, 8, 8, 8, 8, 8, 8, 8, 8, 8, 8, 8, 8, 8, 8, 8, 8, 8, 8, 8, 8, 8, 8, 8, 8, 8, 8, 8, 8, 8, 8, 8, 8, 8, 8, 8, 8, 8, 8, 8, 8, 8, 8, 8, 8, 8, 8, 8, 8, 8, 8, 8, 8, 8, 8, 8, 8, 8, 8, 8, 8, 8, 8, 8, 8, 8, 8, 8, 8, 8, 8, 8, 8, 8, 8, 8, 8, 8, 8, 8, 8, 8, 8, 8, 8, 8, 8, 8, 8, 8, 8, 8, 8, 8, 8, 8, 8, 8, 8, 8, 8, 8, 8, 8, 8]))) (.leaf [(.o (.add .i64) (.i 8) (.u (.conv .i64) (.o .sidx (.s [0, 1, 2, 2, 3, 3, 3, 3, 4, 4, 4, 4, 4, 4, 4, 4, 5, 5, 5, 5, 5, 5, 5, 5, 5, 5, 5, 5, 5, 5, 5, 5, 6, 6, 6, 6, 6, 6, 6, 6, 6, 6, 6, 6, 6, 6, 6, 6, 6, 6, 6, 6, 6, 6, 6, 6, 6, 6, 6, 6, 6, 6, 6, 6, 7, 7, 7, 7, 7, 7, 7, 7, 7, 7, 7, 7, 7, 7, 7, 7, 7, 7, 7, 7, 7, 7, 7, 7, 7, 7, 7, 7, 7, 7, 7, 7, 7, 7, 7, 7, 7, 7, 7, 7, 7, 7, 7, 7, 7, 7, 7, 7, 7, 7, 7, 7, 7, 7, 7, 7, 7, 7, 7, 7, 7, 7, 7, 7, 8, 8, 8, 8, 8, 8, 8, 8, 8, 8, 8, 8, 8, 8, 8, 8, 8, 8, 8, 8, 8, 8, 8, 8, 8, 8, 8, 8, 8, 8, 8, 8, 8, 8, 8, 8, 8, 8, 8, 8, 8, 8, 8, 8, 8, 8, 8, 8, 8, 8, 8, 8, 8, 8, 8, 8, 8, 8, 8, 8, 8, 8, 8, 8, 8, 8, 8, 8, 8, 8, 8, 8, 8, 8, 8, 8, 8, 8, 8, 8, 8, 8, 8, 8, 8, 8, 8, 8, 8, 8, 8, 8, 8, 8, 8, 8, 8, 8, 8, 8, 8, 8, 8, 8, 8, 8, 8, 8, 8, 8, 8, 8, 8, 8, 8, 8, 8, 8, 8, 8, 8, 8, 8, 8, 8, 8, 8, 8]) (.u (.conv .u8) (.o (.shr .u64) (.v 0) (.i 8))))))])))
 (.need (.o .le (.i 0) (.u (.conv .u8) (.v 0))) (.need (.o .lt (.u (.conv .u8) (.v 0)) (.u .slen (.s [0, 1, 2, 2, 3, 3, 3, 3, 4, 4, 4, 4, 4, 4, 4, 4, 5, 5, 5, 5, 5, 5, 5, 5, 5, 5, 5, 5, 5, 5, 5, 5, 6, 6, 6, 6, 6, 6, 6, 6, 6, 6, 6, 6, 6, 6, 6, 6, 6, 6, 6, 6, 6, 6, 6, 6, 6, 6, 6, 6, 6, 6, 6, 6, 7, 7, 7, 7, 7, 7, 7, 7, 7, 7, 7, 7, 7, 7, 7, 7, 7, 7, 7, 7, 7, 7, 7, 7, 7, 7, 7, 7, 7, 7, 7, 7, 7, 7, 7, 7, 7, 7, 7, 7, 7, 7, 7, 7, 7, 7, 7, 7, 7, 7, 7, 7, 7, 7, 7, 7, 7, 7, 7, 7, 7, 7, 7, 7, 8, 8, 8, 8, 8, 8, 8, 8, 8, 8, 8, 8, 8, 8, 8, 8, 8, 8, 8, 8, 8, 8, 8, 8, 8, 8, 8, 8, 8, 8, 8, 8, 8, 8, 8, 8, 8, 8, 8, 8, 8, 8, 8, 8, 8, 8, 8, 8, 8, 8, 8, 8, 8, 8, 8, 8, 8, 8, 8, 8, 8, 8, 8, 8, 8, 8, 8, 8, 8, 8, 8, 8, 8, 8, 8, 8, 8, 8, 8, 8, 8, 8, 8, 8, 8, 8, 8, 8, 8, 8, 8, 8, 8, 8, 8, 8, 8, 8, 8, 8, 8, 8, 8, 8, 8, 8, 8, 8, 8, 8, 8, 8, 8, 8, 8, 8, 8, 8, 8, 8, 8, 8, 8, 8, 8, 8, 8, 8]))) (.leaf [(.o (.add .i64) (.i 0) (.u (.conv .i64) (.o .sidx (.s [0, 1, 2, 2, 3, 3, 3, 3, 4, 4, 4, 4, 4, 4, 4, 4, 5, 5, 5, 5, 5, 5, 5, 5, 5, 5, 5, 5, 5, 5, 5, 5, 6, 6, 6, 6, 6, 6, 6, 6, 6, 6, 6, 6, 6, 6, 6, 6, 6, 6, 6, 6, 6, 6, 6, 6, 6, 6, 6, 6, 6, 6, 6, 6, 7, 7, 7, 7, 7, 7, 7, 7, 7, 7, 7, 7, 7, 7, 7, 7, 7, 7, 7, 7, 7, 7, 7, 7, 7, 7, 7, 7, 7, 7, 7, 7, 7, 7, 7, 7, 7, 7, 7, 7, 7, 7, 7, 7, 7, 7, 7, 7, 7, 7, 7, 7, 7, 7, 7, 7, 7, 7, 7, 7, 7, 7, 7, 7, 8, 8, 8, 8, 8, 8, 8, 8, 8, 8, 8, 8, 8, 8, 8, 8, 8, 8, 8, 8, 8, 8, 8, 8, 8, 8, 8, 8, 8, 8, 8, 8, 8, 8, 8, 8, 8, 8, 8, 8, 8, 8, 8, 8, 8, 8, 8, 8, 8, 8, 8, 8, 8, 8, 8, 8, 8, 8, 8, 8, 8, 8, 8, 8, 8, 8, 8, 8, 8, 8, 8, 8, 8, 8, 8, 8, 8, 8, 8, 8, 8, 8, 8, 8, 8, 8, 8, 8, 8, 8, 8, 8, 8, 8, 8, 8, 8, 8, 8, 8, 8, 8, 8, 8, 8, 8, 8, 8, 8, 8, 8, 8, 8, 8, 8, 8, 8, 8, 8, 8, 8, 8, 8, 8, 8, 8, 8, 8]) (.u (.conv .u8) (.v 0)))))]))))))
noncomputable def k_bits_Len64 : Known Tryd.prog := known mixedOk [] (by decide) [] plTypes plOk inFuncs insOk 6 ⟨83, [(.a (.ck (.int .u64)))], (.c (.a (.ck (.int .i64))))⟩ (fun args w => Tryd.call83 args w) tk_bits_Len64 (by kernel_rfl)
theorem k_bits_Len64_f : k_bits_Len64.con.f = 83 := rfl
theorem k_bits_Len64_F (l : List Sc) : k_bits_Len64.F l = if l.length = 1 then tk_bits_Len64.den (gam (P := Tryd.prog) []) l [] else none := rfl
def tk_frac_Of : T (List Ex) :=
 (.ite (.o .eq (.v 1) (.i 0))
 (.leaf [(.i 0), (.i 0), (.b false)])
 (.call 59 [(.v 0)] 1
 (.call 59 [(.v 1)] 1
 (.call 58 [(.v 2), (.v 3)] 1
 (.call 59 [(.v 0)] 1
 (.need (.o .ne (.v 4) (.i 0)) (.call 59 [(.v 1)] 1
 (.need (.o .ne (.v 4) (.i 0)) (.call 60 [(.u .not (.o .beq (.o .lt (.v 0) (.i 0)) (.o .lt (.v 1) (.i 0)))), (.o (.quo .u64) (.v 5) (.v 4)), (.o (.quo .u64) (.v 6) (.v 4))] 3
 (.leaf [(.v 7), (.v 8), (.v 9)]))))))))))
noncomputable def k_frac_Of : Known Tryd.prog := known mixedOk [k_frac_size, k_frac_gcd, k_frac_made] (by decide) [] plTypes plOk inFuncs insOk 6 ⟨27, [(.a (.ck (.int .i64))), (.a (.ck (.int .i64)))], (.t [(.g [(.ck (.int .i64)), (.ck (.int .i64))]), (.a (.ck .bool))])⟩ (fun args w => Tryd.call27 args w) tk_frac_Of (by kernel_rfl)
theorem k_frac_Of_f : k_frac_Of.con.f = 27 := rfl
theorem k_frac_Of_F (l : List Sc) : k_frac_Of.F l = if l.length = 2 then tk_frac_Of.den (gam (P := Tryd.prog) [k_frac_size, k_frac_gcd, k_frac_made]) l [] else none := rfl
def tk_simulatorref02_Divide : T (List Ex) :=
 (.loop [(.i 127), (.i 0), (.i 0), (.i 0), (.i 0)]
 (.ite (.o .le (.i 0) (.v 4))
 (.call 32 [(.v 5), (.v 6), (.v 5), (.v 6)] 2
 (.call 32 [(.v 7), (.v 8), (.v 7), (.v 8)] 2
 (.call 65 [(.v 0), (.v 1), (.v 4)] 1
 (.call 32 [(.v 11), (.v 12), (.i 0), (.v 13)] 2
 (.call 22 [(.v 14), (.v 15), (.v 2), (.v 3)] 1
 (.ite (.u .not (.v 16))
 (.call 66 [(.v 14), (.v 15), (.v 2), (.v 3)] 2
 (.next 0 [(.o (.sub .i64) (.v 4) (.i 1)), (.v 9), (.o (.add .u64) (.v 10) (.i 1)), (.v 17), (.v 18)]))
 (.next 0 [(.o (.sub .i64) (.v 4) (.i 1)), (.v 9), (.v 10), (.v 14), (.v 15)])))))))
 (.leaf [(.v 5), (.v 6), (.v 7), (.v 8)])))
noncomputable def k_simulatorref02_Divide : Known Tryd.prog := known mixedOk [k_simulatorref02_Plus, k_simulatorref02_bit, k_simulatorref02_Less, k_simulatorref02_Minus] (by decide) [⟨3000003, [(8, 0)], [11, 12, 15, 16, 17, 18, 19, 20, 21, 22, 23, 24, 25, 26, 27, 28, 29, 30, 31, 32, 33, 34, 35, 36, 13, 14], [(4, (0, 0)), (4, (1, 0)), (5, (0, 0)), (5, (1, 0))], []⟩] plTypes plOk inFuncs insOk 6 ⟨30, [(.g [(.ck (.int .u64)), (.ck (.int .u64))]), (.g [(.ck (.int .u64)), (.ck (.int .u64))])], (.t [(.g [(.ck (.int .u64)), (.ck (.int .u64))]), (.g [(.ck (.int .u64)), (.ck (.int .u64))])])⟩ (fun args w => Tryd.call30 args w) tk_simulatorref02_Divide (by kernel_rfl)
theorem k_simulatorref02_Divide_f : k_simulatorref02_Divide.con.f = 30 := rfl
theorem k_simulatorref02_Divide_F (l : List Sc) : k_simulatorref02_Divide.F l = if l.length = 4 then tk_simulatorref02_Divide.den (gam (P := Tryd.prog) [k_simulatorref02_Plus, k_simulatorref02_bit, k_simulatorref02_Less, k_simulatorref02_Minus]) l [] else none := rfl
def tk_simulatorref02_Scale : T (List Ex) :=
 (.loop [(.i 63), (.i 0), (.i 0)]
 (.ite (.o .le (.i 0) (.v 3))
 (.call 32 [(.v 4), (.v 5), (.v 4), (.v 5)] 2
 (.call 65 [(.i 0), (.v 2), (.v 3)] 1
 (.ite (.o .eq (.v 8) (.i 1))
 (.call 32 [(.v 6), (.v 7), (.v 0), (.v 1)] 2
 (.next 0 [(.o (.sub .i64) (.v 3) (.i 1)), (.v 9), (.v 10)]))
 (.next 0 [(.o (.sub .i64) (.v 3) (.i 1)), (.v 6), (.v 7)]))))
 (.leaf [(.v 4), (.v 5)])))
noncomputable def k_simulatorref02_Scale : Known Tryd.prog := known mixedOk [k_simulatorref02_Plus, k_simulatorref02_bit] (by decide) [⟨3100003, [(6, 0)], [8, 9, 12, 13, 14, 15, 16, 17, 18, 19, 20, 21, 22, 10, 11], [(2, (0, 0)), (2, (1, 0))], []⟩] plTypes plOk inFuncs insOk 6 ⟨31, [(.g [(.ck (.int .u64)), (.ck (.int .u64))]), (.a (.ck (.int .u64)))], (.c (.g [(.ck (.int .u64)), (.ck (.int .u64))]))⟩ (fun args w => Tryd.call31 args w) tk_simulatorref02_Scale (by kernel_rfl)
theorem k_simulatorref02_Scale_f : k_simulatorref02_Scale.con.f = 31 := rfl
theorem k_simulatorref02_Scale_F (l : List Sc) : k_simulatorref02_Scale.F l = if l.length = 3 then tk_simulatorref02_Scale.den (gam (P := Tryd.prog) [k_simulatorref02_Plus, k_simulatorref02_bit]) l [] else none := rfl
def tk_interval_valid : T (List Ex) :=
 (.call 67 [(.v 0), (.v 1)] 1
 (.ite (.v 4)
 (.call 67 [(.v 2), (.v 3)] 1
 (.leaf [(.v 5)]))
 (.leaf [(.b false)])))
noncomputable def k_interval_valid : Known Tryd.prog := known mixedOk [k_frac_Valid] (by decide) [] plTypes plOk inFuncs insOk 6 ⟨35, [(.g [(.ck (.int .i64)), (.ck (.int .i64)), (.ck (.int .i64)), (.ck (.int .i64))])], (.c (.a (.ck .bool)))⟩ (fun args w => Tryd.call35 args w) tk_interval_valid (by kernel_rfl)
theorem k_interval_valid_f : k_interval_valid.con.f = 35 := rfl
theorem k_interval_valid_F (l : List Sc) : k_interval_valid.F l = if l.length = 4 then tk_interval_valid.den (gam (P := Tryd.prog) [k_frac_Valid]) l [] else none := rfl
def tk_simulatorref49_size : T (List Ex) :=
 (.ite (.o .lt (.v 0) (.i 0))
 (.call 70 [(.v 0), (.v 1)] 2
 (.leaf [(.v 2), (.v 3)]))
 (.leaf [(.v 0), (.v 1)]))
noncomputable def k_simulatorref49_size : Known Tryd.prog := known mixedOk [k_simulatorref02_Opposite] (by decide) [] plTypes plOk inFuncs insOk 6 ⟨41, [(.g [(.ck (.int .i64)), (.ck (.int .i64))])], (.c (.g [(.ck (.int .i64)), (.ck (.int .i64))]))⟩ (fun args w => Tryd.call41 args w) tk_simulatorref49_size (by kernel_rfl)
theorem k_simulatorref49_size_f : k_simulatorref49_size.con.f = 41 := rfl
theorem k_simulatorref49_size_F (l : List Sc) : k_simulatorref49_size.F l = if l.length = 2 then tk_simulatorref49_size.den (gam (P := Tryd.prog) [k_simulatorref02_Opposite]) l [] else none := rfl
def tk_frac_Mul : T (List Ex) :=
 (.call 67 [(.v 0), (.v 1)] 1
 (.ite (.u .not (.v 4))
 (.leaf [(.i 0), (.i 0), (.b false)])
 (.call 67 [(.v 2), (.v 3)] 1
 (.ite (.u .not (.v 5))
 (.leaf [(.i 0), (.i 0), (.b false)])
 (.call 59 [(.v 0)] 1
 (.call 59 [(.v 2)] 1
 (.call 75 [(.u .not (.o .beq (.o .lt (.v 0) (.i 0)) (.o .lt (.v 2) (.i 0)))), (.v 6), (.u (.conv .u64) (.v 1)), (.v 7), (.u (.conv .u64) (.v 3))] 3
 (.leaf [(.v 8), (.v 9), (.v 10)]))))))))
noncomputable def k_frac_Mul : Known Tryd.prog := known mixedOk [k_frac_Valid, k_frac_size, k_frac_product] (by decide) [] plTypes plOk inFuncs insOk 6 ⟨43, [(.g [(.ck (.int .i64)), (.ck (.int .i64))]), (.g [(.ck (.int .i64)), (.ck (.int .i64))])], (.t [(.g [(.ck (.int .i64)), (.ck (.int .i64))]), (.a (.ck .bool))])⟩ (fun args w => Tryd.call43 args w) tk_frac_Mul (by kernel_rfl)
theorem k_frac_Mul_f : k_frac_Mul.con.f = 43 := rfl
theorem k_frac_Mul_F (l : List Sc) : k_frac_Mul.F l = if l.length = 4 then tk_frac_Mul.den (gam (P := Tryd.prog) [k_frac_Valid, k_frac_size, k_frac_product]) l [] else none := rfl
def tk_frac_Div : T (List Ex) :=
 (.call 67 [(.v 0), (.v 1)] 1
 (.ite (.u .not (.v 4))
 (.leaf [(.i 0), (.i 0), (.b false)])
 (.call 67 [(.v 2), (.v 3)] 1
 (.ite (.u .not (.v 5))
 (.leaf [(.i 0), (.i 0), (.b false)])
 (.ite (.o .eq (.v 2) (.i 0))
 (.leaf [(.i 0), (.i 0), (.b false)])
 (.call 59 [(.v 0)] 1
 (.call 59 [(.v 2)] 1
 (.call 75 [(.u .not (.o .beq (.o .lt (.v 0) (.i 0)) (.o .lt (.v 2) (.i 0)))), (.v 6), (.u (.conv .u64) (.v 1)), (.u (.conv .u64) (.v 3)), (.v 7)] 3
 (.leaf [(.v 8), (.v 9), (.v 10)])))))))))
noncomputable def k_frac_Div : Known Tryd.prog := known mixedOk [k_frac_Valid, k_frac_size, k_frac_product] (by decide) [] plTypes plOk inFuncs insOk 6 ⟨51, [(.g [(.ck (.int .i64)), (.ck (.int .i64))]), (.g [(.ck (.int .i64)), (.ck (.int .i64))])], (.t [(.g [(.ck (.int .i64)), (.ck (.int .i64))]), (.a (.ck .bool))])⟩ (fun args w => Tryd.call51 args w) tk_frac_Div (by kernel_rfl)
theorem k_frac_Div_f : k_frac_Div.con.f = 51 := rfl
theorem k_frac_Div_F (l : List Sc) : k_frac_Div.F l = if l.length = 4 then tk_frac_Div.den (gam (P := Tryd.prog) [k_frac_Valid, k_frac_size, k_frac_product]) l [] else none := rfl
def tk_frac_signed : T (List Ex) :=
 (.ite (.o .beq (.v 0) (.v 3))
 (.call 81 [(.v 1), (.v 2), (.v 4), (.v 5)] 2
 (.leaf [(.v 0), (.v 6), (.v 7)]))
 (.call 82 [(.v 1), (.v 2), (.v 4), (.v 5)] 3
 (.leaf [(.u .not (.o .beq (.v 0) (.v 8))), (.v 6), (.v 7)])))
noncomputable def k_frac_signed : Known Tryd.prog := known mixedOk [k_frac_wide_plus, k_frac_wide_minus] (by decide) [] plTypes plOk inFuncs insOk 6 ⟨68, [(.a (.ck .bool)), (.g [(.ck (.int .u64)), (.ck (.int .u64))]), (.a (.ck .bool)), (.g [(.ck (.int .u64)), (.ck (.int .u64))])], (.t [(.a (.ck .bool)), (.g [(.ck (.int .u64)), (.ck (.int .u64))])])⟩ (fun args w => Tryd.call68 args w) tk_frac_signed (by kernel_rfl)
theorem k_frac_signed_f : k_frac_signed.con.f = 68 := rfl
theorem k_frac_signed_F (l : List Sc) : k_frac_signed.F l = if l.length = 6 then tk_frac_signed.den (gam (P := Tryd.prog) [k_frac_wide_plus, k_frac_wide_minus]) l [] else none := rfl
def tk_simulatorref02_common : T (List Ex) :=
 (.loop [(.v 0), (.v 1), (.v 2), (.v 3)]
 (.ite (.u .not (.o .and (.o .eq (.v 6) (.i 0)) (.o .and (.o .eq (.v 7) (.i 0)) (.b true))))
 (.call 30 [(.v 4), (.v 5), (.v 6), (.v 7)] 4
 (.next 0 [(.v 6), (.v 7), (.v 10), (.v 11)]))
 (.leaf [(.v 4), (.v 5)])))
noncomputable def k_simulatorref02_common : Known Tryd.prog := known mixedOk [k_simulatorref02_Divide] (by decide) [⟨7100001, [], [7, 8, 9, 11, 12, 13, 10, 14, 15, 5, 6, 16, 17], [(0, (0, 0)), (0, (1, 0)), (1, (0, 0)), (1, (1, 0))], []⟩] plTypes plOk inFuncs insOk 6 ⟨71, [(.g [(.ck (.int .u64)), (.ck (.int .u64))]), (.g [(.ck (.int .u64)), (.ck (.int .u64))])], (.c (.g [(.ck (.int .u64)), (.ck (.int .u64))]))⟩ (fun args w => Tryd.call71 args w) tk_simulatorref02_common (by kernel_rfl)
theorem k_simulatorref02_common_f : k_simulatorref02_common.con.f = 71 := rfl
theorem k_simulatorref02_common_F (l : List Sc) : k_simulatorref02_common.F l = if l.length = 4 then tk_simulatorref02_common.den (gam (P := Tryd.prog) [k_simulatorref02_Divide]) l [] else none := rfl
def tk_bits_LeadingZeros64 : T (List Ex) :=
 (.call 83 [(.v 0)] 1
 (.leaf [(.o (.sub .i64) (.i 64) (.v 1))]))
noncomputable def k_bits_LeadingZeros64 : Known Tryd.prog := known mixedOk [k_bits_Len64] (by decide) [] plTypes plOk inFuncs insOk 6 ⟨79, [(.a (.ck (.int .u64)))], (.c (.a (.ck (.int .i64))))⟩ (fun args w => Tryd.call79 args w) tk_bits_LeadingZeros64 (by kernel_rfl)
theorem k_bits_LeadingZeros64_f : k_bits_LeadingZeros64.con.f = 79 := rfl
theorem k_bits_LeadingZeros64_F (l : List Sc) : k_bits_LeadingZeros64.F l = if l.length = 1 then tk_bits_LeadingZeros64.den (gam (P := Tryd.prog) [k_bits_Len64]) l [] else none := rfl
def tk_simulatorref02_Times : T (List Ex) :=
 (.call 31 [(.i 0), (.v 0), (.v 1)] 2
 (.leaf [(.v 2), (.v 3)]))
noncomputable def k_simulatorref02_Times : Known Tryd.prog := known mixedOk [k_simulatorref02_Scale] (by decide) [] plTypes plOk inFuncs insOk 6 ⟨21, [(.a (.ck (.int .u64))), (.a (.ck (.int .u64)))], (.c (.g [(.ck (.int .u64)), (.ck (.int .u64))]))⟩ (fun args w => Tryd.call21 args w) tk_simulatorref02_Times (by kernel_rfl)
theorem k_simulatorref02_Times_f : k_simulatorref02_Times.con.f = 21 := rfl
theorem k_simulatorref02_Times_F (l : List Sc) : k_simulatorref02_Times.F l = if l.length = 2 then tk_simulatorref02_Times.den (gam (P := Tryd.prog) [k_simulatorref02_Scale]) l [] else none := rfl
def tk_simulatorref49_least : T (List Ex) :=
 (.call 21 [(.i 1000000000000), (.i 1000000000000)] 2
 (.call 22 [(.v 2), (.v 3), (.v 0), (.v 1)] 1
 (.ite (.v 4)
 (.leaf [(.i 0), (.b false)])
 (.loop [(.i 0), (.i 1000000000000)]
 (.ite (.o .lt (.v 5) (.v 6))
 (.call 21 [(.u (.conv .u64) (.o (.quo .i64) (.o (.add .i64) (.v 5) (.v 6)) (.i 2))), (.u (.conv .u64) (.o (.quo .i64) (.o (.add .i64) (.v 5) (.v 6)) (.i 2)))] 2
 (.call 22 [(.v 7), (.v 8), (.v 0), (.v 1)] 1
 (.ite (.v 9)
 (.next 0 [(.o (.add .i64) (.o (.quo .i64) (.o (.add .i64) (.v 5) (.v 6)) (.i 2)) (.i 1)), (.v 6)])
 (.next 0 [(.v 5), (.o (.quo .i64) (.o (.add .i64) (.v 5) (.v 6)) (.i 2))]))))
 (.leaf [(.v 5), (.b true)]))))))
noncomputable def k_simulatorref49_least : Known Tryd.prog := known mixedOk [k_simulatorref02_Times, k_simulatorref02_Less] (by decide) [⟨3300004, [(4, 0), (5, 0)], [10, 11, 12, 13, 14, 15, 16, 6, 17, 18, 19, 20, 21, 22, 23, 24, 25, 26], [], []⟩] plTypes plOk inFuncs insOk 6 ⟨33, [(.g [(.ck (.int .u64)), (.ck (.int .u64))])], (.t [(.a (.ck (.int .i64))), (.a (.ck .bool))])⟩ (fun args w => Tryd.call33 args w) tk_simulatorref49_least (by kernel_rfl)
theorem k_simulatorref49_least_f : k_simulatorref49_least.con.f = 33 := rfl
theorem k_simulatorref49_least_F (l : List Sc) : k_simulatorref49_least.F l = if l.length = 2 then tk_simulatorref49_least.den (gam (P := Tryd.prog) [k_simulatorref02_Times, k_simulatorref02_Less]) l [] else none := rfl
def tk_frac_Cmp : T (List Ex) :=
 (.call 67 [(.v 0), (.v 1)] 1
 (.ite (.u .not (.v 4))
 (.call 67 [(.v 2), (.v 3)] 1
 (.ite (.u .not (.v 5))
 (.call 59 [(.i 0)] 1
 (.call 69 [(.v 6), (.i 1)] 2
 (.call 59 [(.i 0)] 1
 (.call 69 [(.v 9), (.i 1)] 2
 (.call 68 [(.b false), (.v 7), (.v 8), (.b true), (.v 10), (.v 11)] 3
 (.ite (.o .and (.o .eq (.v 13) (.i 0)) (.o .and (.o .eq (.v 14) (.i 0)) (.b true)))
 (.leaf [(.i 0)])
 (.ite (.v 12)
 (.leaf [(.i (-1))])
 (.leaf [(.i 1)]))))))))
 (.call 59 [(.i 0)] 1
 (.call 69 [(.v 6), (.u (.conv .u64) (.v 3))] 2
 (.call 59 [(.v 2)] 1
 (.call 69 [(.v 9), (.i 1)] 2
 (.call 68 [(.b false), (.v 7), (.v 8), (.o .le (.i 0) (.v 2)), (.v 10), (.v 11)] 3
 (.ite (.o .and (.o .eq (.v 13) (.i 0)) (.o .and (.o .eq (.v 14) (.i 0)) (.b true)))
 (.leaf [(.i 0)])
 (.ite (.v 12)
 (.leaf [(.i (-1))])
 (.leaf [(.i 1)]))))))))))
 (.call 67 [(.v 2), (.v 3)] 1
 (.ite (.u .not (.v 5))
 (.call 59 [(.v 0)] 1
 (.call 69 [(.v 6), (.i 1)] 2
 (.call 59 [(.i 0)] 1
 (.call 69 [(.v 9), (.u (.conv .u64) (.v 1))] 2
 (.call 68 [(.o .lt (.v 0) (.i 0)), (.v 7), (.v 8), (.b true), (.v 10), (.v 11)] 3
 (.ite (.o .and (.o .eq (.v 13) (.i 0)) (.o .and (.o .eq (.v 14) (.i 0)) (.b true)))
 (.leaf [(.i 0)])
 (.ite (.v 12)
 (.leaf [(.i (-1))])
 (.leaf [(.i 1)]))))))))
 (.call 59 [(.v 0)] 1
 (.call 69 [(.v 6), (.u (.conv .u64) (.v 3))] 2
 (.call 59 [(.v 2)] 1
 (.call 69 [(.v 9), (.u (.conv .u64) (.v 1))] 2
 (.call 68 [(.o .lt (.v 0) (.i 0)), (.v 7), (.v 8), (.o .le (.i 0) (.v 2)), (.v 10), (.v 11)] 3
 (.ite (.o .and (.o .eq (.v 13) (.i 0)) (.o .and (.o .eq (.v 14) (.i 0)) (.b true)))
 (.leaf [(.i 0)])
 (.ite (.v 12)
 (.leaf [(.i (-1))])
 (.leaf [(.i 1)]))))))))))))
noncomputable def k_frac_Cmp : Known Tryd.prog := known mixedOk [k_frac_Valid, k_frac_size, k_frac_times, k_frac_signed] (by decide) [] plTypes plOk inFuncs insOk 6 ⟨36, [(.g [(.ck (.int .i64)), (.ck (.int .i64))]), (.g [(.ck (.int .i64)), (.ck (.int .i64))])], (.c (.a (.ck (.int .i64))))⟩ (fun args w => Tryd.call36 args w) tk_frac_Cmp (by kernel_rfl)
theorem k_frac_Cmp_f : k_frac_Cmp.con.f = 36 := rfl
theorem k_frac_Cmp_F (l : List Sc) : k_frac_Cmp.F l = if l.length = 4 then tk_frac_Cmp.den (gam (P := Tryd.prog) [k_frac_Valid, k_frac_size, k_frac_times, k_frac_signed]) l [] else none := rfl
def tk_simulatorref02_Valid : T (List Ex) :=
 (.ite (.o .lt (.v 1) (.i 1))
 (.leaf [(.b false)])
 (.ite (.o .lt (.i 1000000000000000) (.v 1))
 (.leaf [(.b false)])
 (.ite (.o .lt (.v 0) (.i (-4611686018427387904)))
 (.leaf [(.b false)])
 (.ite (.o .lt (.i 4611686018427387904) (.v 0))
 (.leaf [(.b false)])
 (.call 46 [(.v 0)] 1
 (.call 46 [(.v 1)] 1
 (.call 71 [(.i 0), (.v 2), (.i 0), (.v 3)] 2
 (.leaf [(.o .and (.o .eq (.v 4) (.i 0)) (.o .and (.o .eq (.v 5) (.i 1)) (.b true)))]))))))))
noncomputable def k_simulatorref02_Valid : Known Tryd.prog := known mixedOk [k_simulatorref02_Size, k_simulatorref02_common] (by decide) [] plTypes plOk inFuncs insOk 6 ⟨39, [(.g [(.ck (.int .i64)), (.ck (.int .i64))])], (.c (.a (.ck .bool)))⟩ (fun args w => Tryd.call39 args w) tk_simulatorref02_Valid (by kernel_rfl)
theorem k_simulatorref02_Valid_f : k_simulatorref02_Valid.con.f = 39 := rfl
theorem k_simulatorref02_Valid_F (l : List Sc) : k_simulatorref02_Valid.F l = if l.length = 2 then tk_simulatorref02_Valid.den (gam (P := Tryd.prog) [k_simulatorref02_Size, k_simulatorref02_common]) l [] else none := rfl
def tk_simulatorref02_Made : T (List Ex) :=
 (.call 71 [(.v 1), (.v 2), (.v 3), (.v 4)] 2
 (.call 30 [(.v 1), (.v 2), (.v 5), (.v 6)] 4
 (.call 30 [(.v 3), (.v 4), (.v 5), (.v 6)] 4
 (.ite (.o .ne (.v 7) (.i 0))
 (.leaf [(.i 0), (.i 0), (.b false)])
 (.ite (.o .lt (.i 4611686018427387904) (.v 8))
 (.leaf [(.i 0), (.i 0), (.b false)])
 (.ite (.o .ne (.v 11) (.i 0))
 (.leaf [(.i 0), (.i 0), (.b false)])
 (.ite (.o .lt (.i 1000000000000000) (.v 12))
 (.leaf [(.i 0), (.i 0), (.b false)])
 (.ite (.v 0)
 (.leaf [(.o (.sub .i64) (.i 0) (.u (.conv .i64) (.v 8))), (.u (.conv .i64) (.v 12)), (.b true)])
 (.leaf [(.u (.conv .i64) (.v 8)), (.u (.conv .i64) (.v 12)), (.b true)])))))))))
noncomputable def k_simulatorref02_Made : Known Tryd.prog := known mixedOk [k_simulatorref02_common, k_simulatorref02_Divide] (by decide) [] plTypes plOk inFuncs insOk 6 ⟨45, [(.g [(.ck .bool), (.ck (.int .u64)), (.ck (.int .u64))]), (.g [(.ck (.int .u64)), (.ck (.int .u64))])], (.t [(.g [(.ck (.int .i64)), (.ck (.int .i64))]), (.a (.ck .bool))])⟩ (fun args w => Tryd.call45 args w) tk_simulatorref02_Made (by kernel_rfl)
theorem k_simulatorref02_Made_f : k_simulatorref02_Made.con.f = 45 := rfl
theorem k_simulatorref02_Made_F (l : List Sc) : k_simulatorref02_Made.F l = if l.length = 5 then tk_simulatorref02_Made.den (gam (P := Tryd.prog) [k_simulatorref02_common, k_simulatorref02_Divide]) l [] else none := rfl
def tk_bits_Div64 : T (List Ex) :=
 (.ite (.o .eq (.v 2) (.i 0))
 (.fail "op")
 (.ite (.o .le (.v 2) (.v 0))
 (.fail "op")
 (.ite (.o .eq (.v 0) (.i 0))
 (.need (.o .ne (.v 2) (.i 0)) (.need (.o .ne (.v 2) (.i 0)) (.leaf [(.o (.quo .u64) (.v 1) (.v 2)), (.o (.rem .u64) (.v 1) (.v 2))])))
 (.call 79 [(.v 2)] 1
 (.need (.o .le (.i 0) (.u (.conv .u64) (.v 3))) (.need (.o .le (.i 0) (.u (.conv .u64) (.v 3))) (.need (.o .le (.i 0) (.o (.sub .u64) (.i 64) (.u (.conv .u64) (.v 3)))) (.need (.o .le (.i 0) (.u (.conv .u64) (.v 3))) (.need (.o .ne (.o (.shr .u64) (.o (.shl .u64) (.v 2) (.u (.conv .u64) (.v 3))) (.i 32)) (.i 0)) (.loop [(.o (.quo .u64) (.o (.bor .u64) (.o (.shl .u64) (.v 0) (.u (.conv .u64) (.v 3))) (.o (.shr .u64) (.v 1) (.o (.sub .u64) (.i 64) (.u (.conv .u64) (.v 3))))) (.o (.shr .u64) (.o (.shl .u64) (.v 2) (.u (.conv .u64) (.v 3))) (.i 32))), (.o (.sub .u64) (.o (.bor .u64) (.o (.shl .u64) (.v 0) (.u (.conv .u64) (.v 3))) (.o (.shr .u64) (.v 1) (.o (.sub .u64) (.i 64) (.u (.conv .u64) (.v 3))))) (.o (.mul .u64) (.o (.quo .u64) (.o (.bor .u64) (.o (.shl .u64) (.v 0) (.u (.conv .u64) (.v 3))) (.o (.shr .u64) (.v 1) (.o (.sub .u64) (.i 64) (.u (.conv .u64) (.v 3))))) (.o (.shr .u64) (.o (.shl .u64) (.v 2) (.u (.conv .u64) (.v 3))) (.i 32))) (.o (.shr .u64) (.o (.shl .u64) (.v 2) (.u (.conv .u64) (.v 3))) (.i 32))))]
 (.ite (.o .le (.i 4294967296) (.v 4))
 (.ite (.o .le (.i 4294967296) (.o (.add .u64) (.v 5) (.o (.shr .u64) (.o (.shl .u64) (.v 2) (.u (.conv .u64) (.v 3))) (.i 32))))
 (.need (.o .ne (.o (.shr .u64) (.o (.shl .u64) (.v 2) (.u (.conv .u64) (.v 3))) (.i 32)) (.i 0)) (.loop [(.o (.quo .u64) (.o (.sub .u64) (.o (.add .u64) (.o (.mul .u64) (.o (.bor .u64) (.o (.shl .u64) (.v 0) (.u (.conv .u64) (.v 3))) (.o (.shr .u64) (.v 1) (.o (.sub .u64) (.i 64) (.u (.conv .u64) (.v 3))))) (.i 4294967296)) (.o (.shr .u64) (.o (.shl .u64) (.v 1) (.u (.conv .u64) (.v 3))) (.i 32))) (.o (.mul .u64) (.o (.sub .u64) (.v 4) (.i 1)) (.o (.shl .u64) (.v 2) (.u (.conv .u64) (.v 3))))) (.o (.shr .u64) (.o (.shl .u64) (.v 2) (.u (.conv .u64) (.v 3))) (.i 32))), (.o (.sub .u64) (.o (.sub .u64) (.o (.add .u64) (.o (.mul .u64) (.o (.bor .u64) (.o (.shl .u64) (.v 0) (.u (.conv .u64) (.v 3))) (.o (.shr .u64) (.v 1) (.o (.sub .u64) (.i 64) (.u (.conv .u64) (.v 3))))) (.i 4294967296)) (.o (.shr .u64) (.o (.shl .u64) (.v 1) (.u (.conv .u64) (.v 3))) (.i 32))) (.o (.mul .u64) (.o (.sub .u64) (.v 4) (.i 1)) (.o (.shl .u64) (.v 2) (.u (.conv .u64) (.v 3))))) (.o (.mul .u64) (.o (.quo .u64) (.o (.sub .u64) (.o (.add .u64) (.o (.mul .u64) (.o (.bor .u64) (.o (.shl .u64) (.v 0) (.u (.conv .u64) (.v 3))) (.o (.shr .u64) (.v 1) (.o (.sub .u64) (.i 64) (.u (.conv .u64) (.v 3))))) (.i 4294967296)) (.o (.shr .u64) (.o (.shl .u64) (.v 1) (.u (.conv .u64) (.v 3))) (.i 32))) (.o (.mul .u64) (.o (.sub .u64) (.v 4) (.i 1)) (.o (.shl .u64) (.v 2) (.u (.conv .u64) (.v 3))))) (.o (.shr .u64) (.o (.shl .u64) (.v 2) (.u (.conv .u64) (.v 3))) (.i 32))) (.o (.shr .u64) (.o (.shl .u64) (.v 2) (.u (.conv .u64) (.v 3))) (.i 32))))]
 (.ite (.o .le (.i 4294967296) (.v 6))
 (.ite (.o .le (.i 4294967296) (.o (.add .u64) (.v 7) (.o (.shr .u64) (.o (.shl .u64) (.v 2) (.u (.conv .u64) (.v 3))) (.i 32))))
 (.need (.o .le (.i 0) (.u (.conv .u64) (.v 3))) (.leaf [(.o (.add .u64) (.o (.mul .u64) (.o (.sub .u64) (.v 4) (.i 1)) (.i 4294967296)) (.o (.sub .u64) (.v 6) (.i 1))), (.o (.shr .u64) (.o (.sub .u64) (.o (.add .u64) (.o (.mul .u64) (.o (.sub .u64) (.o (.add .u64) (.o (.mul .u64) (.o (.bor .u64) (.o (.shl .u64) (.v 0) (.u (.conv .u64) (.v 3))) (.o (.shr .u64) (.v 1) (.o (.sub .u64) (.i 64) (.u (.conv .u64) (.v 3))))) (.i 4294967296)) (.o (.shr .u64) (.o (.shl .u64) (.v 1) (.u (.conv .u64) (.v 3))) (.i 32))) (.o (.mul .u64) (.o (.sub .u64) (.v 4) (.i 1)) (.o (.shl .u64) (.v 2) (.u (.conv .u64) (.v 3))))) (.i 4294967296)) (.o (.band .u64) (.o (.shl .u64) (.v 1) (.u (.conv .u64) (.v 3))) (.i 4294967295))) (.o (.mul .u64) (.o (.sub .u64) (.v 6) (.i 1)) (.o (.shl .u64) (.v 2) (.u (.conv .u64) (.v 3))))) (.u (.conv .u64) (.v 3)))]))
 (.next 1 [(.o (.sub .u64) (.v 6) (.i 1)), (.o (.add .u64) (.v 7) (.o (.shr .u64) (.o (.shl .u64) (.v 2) (.u (.conv .u64) (.v 3))) (.i 32)))]))
 (.ite (.o .lt (.o (.add .u64) (.o (.mul .u64) (.i 4294967296) (.v 7)) (.o (.band .u64) (.o (.shl .u64) (.v 1) (.u (.conv .u64) (.v 3))) (.i 4294967295))) (.o (.mul .u64) (.v 6) (.o (.band .u64) (.o (.shl .u64) (.v 2) (.u (.conv .u64) (.v 3))) (.i 4294967295))))
 (.ite (.o .le (.i 4294967296) (.o (.add .u64) (.v 7) (.o (.shr .u64) (.o (.shl .u64) (.v 2) (.u (.conv .u64) (.v 3))) (.i 32))))
 (.need (.o .le (.i 0) (.u (.conv .u64) (.v 3))) (.leaf [(.o (.add .u64) (.o (.mul .u64) (.o (.sub .u64) (.v 4) (.i 1)) (.i 4294967296)) (.o (.sub .u64) (.v 6) (.i 1))), (.o (.shr .u64) (.o (.sub .u64) (.o (.add .u64) (.o (.mul .u64) (.o (.sub .u64) (.o (.add .u64) (.o (.mul .u64) (.o (.bor .u64) (.o (.shl .u64) (.v 0) (.u (.conv .u64) (.v 3))) (.o (.shr .u64) (.v 1) (.o (.sub .u64) (.i 64) (.u (.conv .u64) (.v 3))))) (.i 4294967296)) (.o (.shr .u64) (.o (.shl .u64) (.v 1) (.u (.conv .u64) (.v 3))) (.i 32))) (.o (.mul .u64) (.o (.sub .u64) (.v 4) (.i 1)) (.o (.shl .u64) (.v 2) (.u (.conv .u64) (.v 3))))) (.i 4294967296)) (.o (.band .u64) (.o (.shl .u64) (.v 1) (.u (.conv .u64) (.v 3))) (.i 4294967295))) (.o (.mul .u64) (.o (.sub .u64) (.v 6) (.i 1)) (.o (.shl .u64) (.v 2) (.u (.conv .u64) (.v 3))))) (.u (.conv .u64) (.v 3)))]))
 (.next 1 [(.o (.sub .u64) (.v 6) (.i 1)), (.o (.add .u64) (.v 7) (.o (.shr .u64) (.o (.shl .u64) (.v 2) (.u (.conv .u64) (.v 3))) (.i 32)))]))
 (.need (.o .le (.i 0) (.u (.conv .u64) (.v 3))) (.leaf [(.o (.add .u64) (.o (.mul .u64) (.o (.sub .u64) (.v 4) (.i 1)) (.i 4294967296)) (.v 6)), (.o (.shr .u64) (.o (.sub .u64) (.o (.add .u64) (.o (.mul .u64) (.o (.sub .u64) (.o (.add .u64) (.o (.mul .u64) (.o (.bor .u64) (.o (.shl .u64) (.v 0) (.u (.conv .u64) (.v 3))) (.o (.shr .u64) (.v 1) (.o (.sub .u64) (.i 64) (.u (.conv .u64) (.v 3))))) (.i 4294967296)) (.o (.shr .u64) (.o (.shl .u64) (.v 1) (.u (.conv .u64) (.v 3))) (.i 32))) (.o (.mul .u64) (.o (.sub .u64) (.v 4) (.i 1)) (.o (.shl .u64) (.v 2) (.u (.conv .u64) (.v 3))))) (.i 4294967296)) (.o (.band .u64) (.o (.shl .u64) (.v 1) (.u (.conv .u64) (.v 3))) (.i 4294967295))) (.o (.mul .u64) (.v 6) (.o (.shl .u64) (.v 2) (.u (.conv .u64) (.v 3))))) (.u (.conv .u64) (.v 3)))]))))))
 (.next 0 [(.o (.sub .u64) (.v 4) (.i 1)), (.o (.add .u64) (.v 5) (.o (.shr .u64) (.o (.shl .u64) (.v 2) (.u (.conv .u64) (.v 3))) (.i 32)))]))
 (.ite (.o .lt (.o (.add .u64) (.o (.mul .u64) (.i 4294967296) (.v 5)) (.o (.shr .u64) (.o (.shl .u64) (.v 1) (.u (.conv .u64) (.v 3))) (.i 32))) (.o (.mul .u64) (.v 4) (.o (.band .u64) (.o (.shl .u64) (.v 2) (.u (.conv .u64) (.v 3))) (.i 4294967295))))
 (.ite (.o .le (.i 4294967296) (.o (.add .u64) (.v 5) (.o (.shr .u64) (.o (.shl .u64) (.v 2) (.u (.conv .u64) (.v 3))) (.i 32))))
 (.need (.o .ne (.o (.shr .u64) (.o (.shl .u64) (.v 2) (.u (.conv .u64) (.v 3))) (.i 32)) (.i 0)) (.loop [(.o (.quo .u64) (.o (.sub .u64) (.o (.add .u64) (.o (.mul .u64) (.o (.bor .u64) (.o (.shl .u64) (.v 0) (.u (.conv .u64) (.v 3))) (.o (.shr .u64) (.v 1) (.o (.sub .u64) (.i 64) (.u (.conv .u64) (.v 3))))) (.i 4294967296)) (.o (.shr .u64) (.o (.shl .u64) (.v 1) (.u (.conv .u64) (.v 3))) (.i 32))) (.o (.mul .u64) (.o (.sub .u64) (.v 4) (.i 1)) (.o (.shl .u64) (.v 2) (.u (.conv .u64) (.v 3))))) (.o (.shr .u64) (.o (.shl .u64) (.v 2) (.u (.conv .u64) (.v 3))) (.i 32))), (.o (.sub .u64) (.o (.sub .u64) (.o (.add .u64) (.o (.mul .u64) (.o (.bor .u64) (.o (.shl .u64) (.v 0) (.u (.conv .u64) (.v 3))) (.o (.shr .u64) (.v 1) (.o (.sub .u64) (.i 64) (.u (.conv .u64) (.v 3))))) (.i 4294967296)) (.o (.shr .u64) (.o (.shl .u64) (.v 1) (.u (.conv .u64) (.v 3))) (.i 32))) (.o (.mul .u64) (.o (.sub .u64) (.v 4) (.i 1)) (.o (.shl .u64) (.v 2) (.u (.conv .u64) (.v 3))))) (.o (.mul .u64) (.o (.quo .u64) (.o (.sub .u64) (.o (.add .u64) (.o (.mul .u64) (.o (.bor .u64) (.o (.shl .u64) (.v 0) (.u (.conv .u64) (.v 3))) (.o (.shr .u64) (.v 1) (.o (.sub .u64) (.i 64) (.u (.conv .u64) (.v 3))))) (.i 4294967296)) (.o (.shr .u64) (.o (.shl .u64) (.v 1) (.u (.conv .u64) (.v 3))) (.i 32))) (.o (.mul .u64) (.o (.sub .u64) (.v 4) (.i 1)) (.o (.shl .u64) (.v 2) (.u (.conv .u64) (.v 3))))) (.o (.shr .u64) (.o (.shl .u64) (.v 2) (.u (.conv .u64) (.v 3))) (.i 32))) (.o (.shr .u64) (.o (.shl .u64) (.v 2) (.u (.conv .u64) (.v 3))) (.i 32))))]
 (.ite (.o .le (.i 4294967296) (.v 6))
 (.ite (.o .le (.i 4294967296) (.o (.add .u64) (.v 7) (.o (.shr .u64) (.o (.shl .u64) (.v 2) (.u (.conv .u64) (.v 3))) (.i 32))))
 (.need (.o .le (.i 0) (.u (.conv .u64) (.v 3))) (.leaf [(.o (.add .u64) (.o (.mul .u64) (.o (.sub .u64) (.v 4) (.i 1)) (.i 4294967296)) (.o (.sub .u64) (.v 6) (.i 1))), (.o (.shr .u64) (.o (.sub .u64) (.o (.add .u64) (.o (.mul .u64) (.o (.sub .u64) (.o (.add .u64) (.o (.mul .u64) (.o (.bor .u64) (.o (.shl .u64) (.v 0) (.u (.conv .u64) (.v 3))) (.o (.shr .u64) (.v 1) (.o (.sub .u64) (.i 64) (.u (.conv .u64) (.v 3))))) (.i 4294967296)) (.o (.shr .u64) (.o (.shl .u64) (.v 1) (.u (.conv .u64) (.v 3))) (.i 32))) (.o (.mul .u64) (.o (.sub .u64) (.v 4) (.i 1)) (.o (.shl .u64) (.v 2) (.u (.conv .u64) (.v 3))))) (.i 4294967296)) (.o (.band .u64) (.o (.shl .u64) (.v 1) (.u (.conv .u64) (.v 3))) (.i 4294967295))) (.o (.mul .u64) (.o (.sub .u64) (.v 6) (.i 1)) (.o (.shl .u64) (.v 2) (.u (.conv .u64) (.v 3))))) (.u (.conv .u64) (.v 3)))]))
 (.next 1 [(.o (.sub .u64) (.v 6) (.i 1)), (.o (.add .u64) (.v 7) (.o (.shr .u64) (.o (.shl .u64) (.v 2) (.u (.conv .u64) (.v 3))) (.i 32)))]))
 (.ite (.o .lt (.o (.add .u64) (.o (.mul .u64) (.i 4294967296) (.v 7)) (.o (.band .u64) (.o (.shl .u64) (.v 1) (.u (.conv .u64) (.v 3))) (.i 4294967295))) (.o (.mul .u64) (.v 6) (.o (.band .u64) (.o (.shl .u64) (.v 2) (.u (.conv .u64) (.v 3))) (.i 4294967295))))
 (.ite (.o .le (.i 4294967296) (.o (.add .u64) (.v 7) (.o (.shr .u64) (.o (.shl .u64) (.v 2) (.u (.conv .u64) (.v 3))) (.i 32))))
 (.need (.o .le (.i 0) (.u (.conv .u64) (.v 3))) (.leaf [(.o (.add .u64) (.o (.mul .u64) (.o (.sub .u64) (.v 4) (.i 1)) (.i 4294967296)) (.o (.sub .u64) (.v 6) (.i 1))), (.o (.shr .u64) (.o (.sub .u64) (.o (.add .u64) (.o (.mul .u64) (.o (.sub .u64) (.o (.add .u64) (.o (.mul .u64) (.o (.bor .u64) (.o (.shl .u64) (.v 0) (.u (.conv .u64) (.v 3))) (.o (.shr .u64) (.v 1) (.o (.sub .u64) (.i 64) (.u (.conv .u64) (.v 3))))) (.i 4294967296)) (.o (.shr .u64) (.o (.shl .u64) (.v 1) (.u (.conv .u64) (.v 3))) (.i 32))) (.o (.mul .u64) (.o (.sub .u64) (.v 4) (.i 1)) (.o (.shl .u64) (.v 2) (.u (.conv .u64) (.v 3))))) (.i 4294967296)) (.o (.band .u64) (.o (.shl .u64) (.v 1) (.u (.conv .u64) (.v 3))) (.i 4294967295))) (.o (.mul .u64) (.o (.sub .u64) (.v 6) (.i 1)) (.o (.shl .u64) (.v 2) (.u (.conv .u64) (.v 3))))) (.u (.conv .u64) (.v 3)))]))
 (.next 1 [(.o (.sub .u64) (.v 6) (.i 1)), (.o (.add .u64) (.v 7) (.o (.shr .u64) (.o (.shl .u64) (.v 2) (.u (.conv .u64) (.v 3))) (.i 32)))]))
 (.need (.o .le (.i 0) (.u (.conv .u64) (.v 3))) (.leaf [(.o (.add .u64) (.o (.mul .u64) (.o (.sub .u64) (.v 4) (.i 1)) (.i 4294967296)) (.v 6)), (.o (.shr .u64) (.o (.sub .u64) (.o (.add .u64) (.o (.mul .u64) (.o (.sub .u64) (.o (.add .u64) (.o (.mul .u64) (.o (.bor .u64) (.o (.shl .u64) (.v 0) (.u (.conv .u64) (.v 3))) (.o (.shr .u64) (.v 1) (.o (.sub .u64) (.i 64) (.u (.conv .u64) (.v 3))))) (.i 4294967296)) (.o (.shr .u64) (.o (.shl .u64) (.v 1) (.u (.conv .u64) (.v 3))) (.i 32))) (.o (.mul .u64) (.o (.sub .u64) (.v 4) (.i 1)) (.o (.shl .u64) (.v 2) (.u (.conv .u64) (.v 3))))) (.i 4294967296)) (.o (.band .u64) (.o (.shl .u64) (.v 1) (.u (.conv .u64) (.v 3))) (.i 4294967295))) (.o (.mul .u64) (.v 6) (.o (.shl .u64) (.v 2) (.u (.conv .u64) (.v 3))))) (.u (.conv .u64) (.v 3)))]))))))
 (.next 0 [(.o (.sub .u64) (.v 4) (.i 1)), (.o (.add .u64) (.v 5) (.o (.shr .u64) (.o (.shl .u64) (.v 2) (.u (.conv .u64) (.v 3))) (.i 32)))]))
 (.need (.o .ne (.o (.shr .u64) (.o (.shl .u64) (.v 2) (.u (.conv .u64) (.v 3))) (.i 32)) (.i 0)) (.loop [(.o (.quo .u64) (.o (.sub .u64) (.o (.add .u64) (.o (.mul .u64) (.o (.bor .u64) (.o (.shl .u64) (.v 0) (.u (.conv .u64) (.v 3))) (.o (.shr .u64) (.v 1) (.o (.sub .u64) (.i 64) (.u (.conv .u64) (.v 3))))) (.i 4294967296)) (.o (.shr .u64) (.o (.shl .u64) (.v 1) (.u (.conv .u64) (.v 3))) (.i 32))) (.o (.mul .u64) (.v 4) (.o (.shl .u64) (.v 2) (.u (.conv .u64) (.v 3))))) (.o (.shr .u64) (.o (.shl .u64) (.v 2) (.u (.conv .u64) (.v 3))) (.i 32))), (.o (.sub .u64) (.o (.sub .u64) (.o (.add .u64) (.o (.mul .u64) (.o (.bor .u64) (.o (.shl .u64) (.v 0) (.u (.conv .u64) (.v 3))) (.o (.shr .u64) (.v 1) (.o (.sub .u64) (.i 64) (.u (.conv .u64) (.v 3))))) (.i 4294967296)) (.o (.shr .u64) (.o (.shl .u64) (.v 1) (.u (.conv .u64) (.v 3))) (.i 32))) (.o (.mul .u64) (.v 4) (.o (.shl .u64) (.v 2) (.u (.conv .u64) (.v 3))))) (.o (.mul .u64) (.o (.quo .u64) (.o (.sub .u64) (.o (.add .u64) (.o (.mul .u64) (.o (.bor .u64) (.o (.shl .u64) (.v 0) (.u (.conv .u64) (.v 3))) (.o (.shr .u64) (.v 1) (.o (.sub .u64) (.i 64) (.u (.conv .u64) (.v 3))))) (.i 4294967296)) (.o (.shr .u64) (.o (.shl .u64) (.v 1) (.u (.conv .u64) (.v 3))) (.i 32))) (.o (.mul .u64) (.v 4) (.o (.shl .u64) (.v 2) (.u (.conv .u64) (.v 3))))) (.o (.shr .u64) (.o (.shl .u64) (.v 2) (.u (.conv .u64) (.v 3))) (.i 32))) (.o (.shr .u64) (.o (.shl .u64) (.v 2) (.u (.conv .u64) (.v 3))) (.i 32))))]
 (.ite (.o .le (.i 4294967296) (.v 6))
 (.ite (.o .le (.i 4294967296) (.o (.add .u64) (.v 7) (.o (.shr .u64) (.o (.shl .u64) (.v 2) (.u (.conv .u64) (.v 3))) (.i 32))))
 (.need (.o .le (.i 0) (.u (.conv .u64) (.v 3))) (.leaf [(.o (.add .u64) (.o (.mul .u64) (.v 4) (.i 4294967296)) (.o (.sub .u64) (.v 6) (.i 1))), (.o (.shr .u64) (.o (.sub .u64) (.o (.add .u64) (.o (.mul .u64) (.o (.sub .u64) (.o (.add .u64) (.o (.mul .u64) (.o (.bor .u64) (.o (.shl .u64) (.v 0) (.u (.conv .u64) (.v 3))) (.o (.shr .u64) (.v 1) (.o (.sub .u64) (.i 64) (.u (.conv .u64) (.v 3))))) (.i 4294967296)) (.o (.shr .u64) (.o (.shl .u64) (.v 1) (.u (.conv .u64) (.v 3))) (.i 32))) (.o (.mul .u64) (.v 4) (.o (.shl .u64) (.v 2) (.u (.conv .u64) (.v 3))))) (.i 4294967296)) (.o (.band .u64) (.o (.shl .u64) (.v 1) (.u (.conv .u64) (.v 3))) (.i 4294967295))) (.o (.mul .u64) (.o (.sub .u64) (.v 6) (.i 1)) (.o (.shl .u64) (.v 2) (.u (.conv .u64) (.v 3))))) (.u (.conv .u64) (.v 3)))]))
 (.next 1 [(.o (.sub .u64) (.v 6) (.i 1)), (.o (.add .u64) (.v 7) (.o (.shr .u64) (.o (.shl .u64) (.v 2) (.u (.conv .u64) (.v 3))) (.i 32)))]))
 (.ite (.o .lt (.o (.add .u64) (.o (.mul .u64) (.i 4294967296) (.v 7)) (.o (.band .u64) (.o (.shl .u64) (.v 1) (.u (.conv .u64) (.v 3))) (.i 4294967295))) (.o (.mul .u64) (.v 6) (.o (.band .u64) (.o (.shl .u64) (.v 2) (.u (.conv .u64) (.v 3))) (.i 4294967295))))
 (.ite (.o .le (.i 4294967296) (.o (.add .u64) (.v 7) (.o (.shr .u64) (.o (.shl .u64) (.v 2) (.u (.conv .u64) (.v 3))) (.i 32))))
 (.need (.o .le (.i 0) (.u (.conv .u64) (.v 3))) (.leaf [(.o (.add .u64) (.o (.mul .u64) (.v 4) (.i 4294967296)) (.o (.sub .u64) (.v 6) (.i 1))), (.o (.shr .u64) (.o (.sub .u64) (.o (.add .u64) (.o (.mul .u64) (.o (.sub .u64) (.o (.add .u64) (.o (.mul .u64) (.o (.bor .u64) (.o (.shl .u64) (.v 0) (.u (.conv .u64) (.v 3))) (.o (.shr .u64) (.v 1) (.o (.sub .u64) (.i 64) (.u (.conv .u64) (.v 3))))) (.i 4294967296)) (.o (.shr .u64) (.o (.shl .u64) (.v 1) (.u (.conv .u64) (.v 3))) (.i 32))) (.o (.mul .u64) (.v 4) (.o (.shl .u64) (.v 2) (.u (.conv .u64) (.v 3))))) (.i 4294967296)) (.o (.band .u64) (.o (.shl .u64) (.v 1) (.u (.conv .u64) (.v 3))) (.i 4294967295))) (.o (.mul .u64) (.o (.sub .u64) (.v 6) (.i 1)) (.o (.shl .u64) (.v 2) (.u (.conv .u64) (.v 3))))) (.u (.conv .u64) (.v 3)))]))
 (.next 1 [(.o (.sub .u64) (.v 6) (.i 1)), (.o (.add .u64) (.v 7) (.o (.shr .u64) (.o (.shl .u64) (.v 2) (.u (.conv .u64) (.v 3))) (.i 32)))]))
 (.need (.o .le (.i 0) (.u (.conv .u64) (.v 3))) (.leaf [(.o (.add .u64) (.o (.mul .u64) (.v 4) (.i 4294967296)) (.v 6)), (.o (.shr .u64) (.o (.sub .u64) (.o (.add .u64) (.o (.mul .u64) (.o (.sub .u64) (.o (.add .u64) (.o (.mul .u64) (.o (.bor .u64) (.o (.shl .u64) (.v 0) (.u (.conv .u64) (.v 3))) (.o (.shr .u64) (.v 1) (.o (.sub .u64) (.i 64) (.u (.conv .u64) (.v 3))))) (.i 4294967296)) (.o (.shr .u64) (.o (.shl .u64) (.v 1) (.u (.conv .u64) (.v 3))) (.i 32))) (.o (.mul .u64) (.v 4) (.o (.shl .u64) (.v 2) (.u (.conv .u64) (.v 3))))) (.i 4294967296)) (.o (.band .u64) (.o (.shl .u64) (.v 1) (.u (.conv .u64) (.v 3))) (.i 4294967295))) (.o (.mul .u64) (.v 6) (.o (.shl .u64) (.v 2) (.u (.conv .u64) (.v 3))))) (.u (.conv .u64) (.v 3)))]))))))))))))))))))
noncomputable def k_bits_Div64 : Known Tryd.prog := known mixedOk [k_bits_LeadingZeros64] (by decide) [⟨5400024, [(18, 0), (16, 0)], [102, 103, 104, 105, 106, 107, 108, 109, 110, 111, 112, 113, 114, 115, 116, 117, 118, 119, 120], [], []⟩, ⟨5400017, [(15, 0), (16, 0)], [67, 68, 69, 70, 71, 72, 73, 74, 75, 76, 77, 78, 79, 80, 81, 82, 83, 84, 85], [], []⟩] plTypes plOk inFuncs insOk 6 ⟨54, [(.a (.ck (.int .u64))), (.a (.ck (.int .u64))), (.a (.ck (.int .u64)))], (.t [(.a (.ck (.int .u64))), (.a (.ck (.int .u64)))])⟩ (fun args w => Tryd.call54 args w) tk_bits_Div64 (by kernel_rfl)
theorem k_bits_Div64_f : k_bits_Div64.con.f = 54 := rfl
theorem k_bits_Div64_F (l : List Sc) : k_bits_Div64.F l = if l.length = 3 then tk_bits_Div64.den (gam (P := Tryd.prog) [k_bits_LeadingZeros64]) l [] else none := rfl
def tk_simulatorref02_usual : T (List Ex) :=
 (.call 39 [(.v 0), (.v 1)] 1
 (.ite (.v 2)
 (.leaf [(.v 0), (.v 1)])
 (.leaf [(.i 0), (.i 1)])))
noncomputable def k_simulatorref02_usual : Known Tryd.prog := known mixedOk [k_simulatorref02_Valid] (by decide) [] plTypes plOk inFuncs insOk 6 ⟨72, [(.g [(.ck (.int .i64)), (.ck (.int .i64))])], (.c (.g [(.ck (.int .i64)), (.ck (.int .i64))]))⟩ (fun args w => Tryd.call72 args w) tk_simulatorref02_usual (by kernel_rfl)
theorem k_simulatorref02_usual_f : k_simulatorref02_usual.con.f = 72 := rfl
theorem k_simulatorref02_usual_F (l : List Sc) : k_simulatorref02_usual.F l = if l.length = 2 then tk_simulatorref02_usual.den (gam (P := Tryd.prog) [k_simulatorref02_Valid]) l [] else none := rfl
def tk_simulatorref02_Product : T (List Ex) :=
 (.call 46 [(.v 0)] 1
 (.call 46 [(.v 1)] 1
 (.call 21 [(.v 2), (.v 3)] 2
 (.leaf [(.u .not (.o .beq (.o .lt (.v 0) (.i 0)) (.o .lt (.v 1) (.i 0)))), (.v 4), (.v 5)]))))
noncomputable def k_simulatorref02_Product : Known Tryd.prog := known mixedOk [k_simulatorref02_Size, k_simulatorref02_Times] (by decide) [] plTypes plOk inFuncs insOk 6 ⟨74, [(.a (.ck (.int .i64))), (.a (.ck (.int .i64)))], (.c (.g [(.ck .bool), (.ck (.int .u64)), (.ck (.int .u64))]))⟩ (fun args w => Tryd.call74 args w) tk_simulatorref02_Product (by kernel_rfl)
theorem k_simulatorref02_Product_f : k_simulatorref02_Product.con.f = 74 := rfl
theorem k_simulatorref02_Product_F (l : List Sc) : k_simulatorref02_Product.F l = if l.length = 2 then tk_simulatorref02_Product.den (gam (P := Tryd.prog) [k_simulatorref02_Size, k_simulatorref02_Times]) l [] else none := rfl
def tk_frac_wide_mod : T (List Ex) :=
 (.need (.o .ne (.v 2) (.i 0)) (.call 54 [(.o (.rem .u64) (.v 0) (.v 2)), (.v 1), (.v 2)] 2
 (.leaf [(.v 4)])))
noncomputable def k_frac_wide_mod : Known Tryd.prog := known mixedOk [k_bits_Div64] (by decide) [] plTypes plOk inFuncs insOk 6 ⟨76, [(.g [(.ck (.int .u64)), (.ck (.int .u64))]), (.a (.ck (.int .u64)))], (.c (.a (.ck (.int .u64))))⟩ (fun args w => Tryd.call76 args w) tk_frac_wide_mod (by kernel_rfl)
theorem k_frac_wide_mod_f : k_frac_wide_mod.con.f = 76 := rfl
theorem k_frac_wide_mod_F (l : List Sc) : k_frac_wide_mod.F l = if l.length = 3 then tk_frac_wide_mod.den (gam (P := Tryd.prog) [k_bits_Div64]) l [] else none := rfl
def tk_frac_wide_over : T (List Ex) :=
 (.ite (.o .le (.v 2) (.v 0))
 (.leaf [(.i 0), (.b false)])
 (.call 54 [(.v 0), (.v 1), (.v 2)] 2
 (.leaf [(.v 3), (.b true)])))
noncomputable def k_frac_wide_over : Known Tryd.prog := known mixedOk [k_bits_Div64] (by decide) [] plTypes plOk inFuncs insOk 6 ⟨77, [(.g [(.ck (.int .u64)), (.ck (.int .u64))]), (.a (.ck (.int .u64)))], (.t [(.a (.ck (.int .u64))), (.a (.ck .bool))])⟩ (fun args w => Tryd.call77 args w) tk_frac_wide_over (by kernel_rfl)
theorem k_frac_wide_over_f : k_frac_wide_over.con.f = 77 := rfl
theorem k_frac_wide_over_F (l : List Sc) : k_frac_wide_over.F l = if l.length = 3 then tk_frac_wide_over.den (gam (P := Tryd.prog) [k_bits_Div64]) l [] else none := rfl
def tk_interval_Enough : T (List Ex) :=
 (.call 27 [(.v 4), (.i 1)] 3
 (.ite (.u .not (.v 7))
 (.leaf [(.b false)])
 (.call 35 [(.v 0), (.v 1), (.v 2), (.v 3)] 1
 (.ite (.u .not (.v 8))
 (.leaf [(.b false)])
 (.call 43 [(.v 5), (.v 6), (.v 2), (.v 3)] 3
 (.ite (.v 11)
 (.call 37 [(.v 0), (.v 1)] 2
 (.call 36 [(.v 9), (.v 10), (.v 12), (.v 13)] 1
 (.leaf [(.o .le (.v 14) (.i 0))])))
 (.leaf [(.b false)])))))))
noncomputable def k_interval_Enough : Known Tryd.prog := known mixedOk [k_frac_Of, k_interval_valid, k_frac_Mul, k_interval_size, k_frac_Cmp] (by decide) [] plTypes plOk inFuncs insOk 6 ⟨17, [(.g [(.ck (.int .i64)), (.ck (.int .i64)), (.ck (.int .i64)), (.ck (.int .i64))]), (.a (.ck (.int .i64)))], (.c (.a (.ck .bool)))⟩ (fun args w => Tryd.call17 args w) tk_interval_Enough (by kernel_rfl)
theorem k_interval_Enough_f : k_interval_Enough.con.f = 17 := rfl
theorem k_interval_Enough_F (l : List Sc) : k_interval_Enough.F l = if l.length = 5 then tk_interval_Enough.den (gam (P := Tryd.prog) [k_frac_Of, k_interval_valid, k_frac_Mul, k_interval_size, k_frac_Cmp]) l [] else none := rfl
def tk_simulatorref02_Of : T (List Ex) :=
 (.ite (.o .eq (.v 1) (.i 0))
 (.leaf [(.i 0), (.i 0), (.b false)])
 (.call 46 [(.v 0)] 1
 (.call 46 [(.v 1)] 1
 (.call 45 [(.u .not (.o .beq (.o .lt (.v 0) (.i 0)) (.o .lt (.v 1) (.i 0)))), (.i 0), (.v 2), (.i 0), (.v 3)] 3
 (.leaf [(.v 4), (.v 5), (.v 6)])))))
noncomputable def k_simulatorref02_Of : Known Tryd.prog := known mixedOk [k_simulatorref02_Size, k_simulatorref02_Made] (by decide) [] plTypes plOk inFuncs insOk 6 ⟨20, [(.a (.ck (.int .i64))), (.a (.ck (.int .i64)))], (.t [(.g [(.ck (.int .i64)), (.ck (.int .i64))]), (.a (.ck .bool))])⟩ (fun args w => Tryd.call20 args w) tk_simulatorref02_Of (by kernel_rfl)
theorem k_simulatorref02_Of_f : k_simulatorref02_Of.con.f = 20 := rfl
theorem k_simulatorref02_Of_F (l : List Sc) : k_simulatorref02_Of.F l = if l.length = 2 then tk_simulatorref02_Of.den (gam (P := Tryd.prog) [k_simulatorref02_Size, k_simulatorref02_Made]) l [] else none := rfl
def tk_interval_half : T (List Ex) :=
 (.call 53 [(.u (.conv .u64) (.o (.mul .i64) (.v 1) (.v 1))), (.u (.conv .u64) (.v 2))] 2
 (.need (.o .ne (.u (.conv .u64) (.o (.mul .i64) (.v 0) (.v 3))) (.i 0)) (.need (.o .ne (.u (.conv .u64) (.o (.mul .i64) (.v 0) (.v 3))) (.i 0)) (.call 54 [(.o (.rem .u64) (.v 4) (.u (.conv .u64) (.o (.mul .i64) (.v 0) (.v 3)))), (.v 5), (.u (.conv .u64) (.o (.mul .i64) (.v 0) (.v 3)))] 2
 (.ite (.o .lt (.i 0) (.v 7))
 (.call 55 [(.v 6), (.i 1), (.i 0)] 2
 (.loop [(.i 0), (.i 1000000000001)]
 (.ite (.o .lt (.v 10) (.v 11))
 (.call 53 [(.u (.conv .u64) (.u (.conv .i64) (.o (.shr .u64) (.u (.conv .u64) (.o (.add .i64) (.v 10) (.v 11))) (.i 1)))), (.u (.conv .u64) (.u (.conv .i64) (.o (.shr .u64) (.u (.conv .u64) (.o (.add .i64) (.v 10) (.v 11))) (.i 1))))] 2
 (.ite (.o .lt (.o (.add .u64) (.o (.quo .u64) (.v 4) (.u (.conv .u64) (.o (.mul .i64) (.v 0) (.v 3)))) (.v 9)) (.v 12))
 (.next 0 [(.v 10), (.u (.conv .i64) (.o (.shr .u64) (.u (.conv .u64) (.o (.add .i64) (.v 10) (.v 11))) (.i 1)))])
 (.ite (.o .eq (.v 12) (.o (.add .u64) (.o (.quo .u64) (.v 4) (.u (.conv .u64) (.o (.mul .i64) (.v 0) (.v 3)))) (.v 9)))
 (.ite (.u .not (.o .le (.v 8) (.v 13)))
 (.next 0 [(.o (.add .i64) (.u (.conv .i64) (.o (.shr .u64) (.u (.conv .u64) (.o (.add .i64) (.v 10) (.v 11))) (.i 1))) (.i 1)), (.v 11)])
 (.next 0 [(.v 10), (.u (.conv .i64) (.o (.shr .u64) (.u (.conv .u64) (.o (.add .i64) (.v 10) (.v 11))) (.i 1)))]))
 (.next 0 [(.o (.add .i64) (.u (.conv .i64) (.o (.shr .u64) (.u (.conv .u64) (.o (.add .i64) (.v 10) (.v 11))) (.i 1))) (.i 1)), (.v 11)]))))
 (.leaf [(.v 10), (.o .le (.v 10) (.i 1000000000000))]))))
 (.loop [(.i 0), (.i 1000000000001)]
 (.ite (.o .lt (.v 8) (.v 9))
 (.call 53 [(.u (.conv .u64) (.u (.conv .i64) (.o (.shr .u64) (.u (.conv .u64) (.o (.add .i64) (.v 8) (.v 9))) (.i 1)))), (.u (.conv .u64) (.u (.conv .i64) (.o (.shr .u64) (.u (.conv .u64) (.o (.add .i64) (.v 8) (.v 9))) (.i 1))))] 2
 (.ite (.o .lt (.o (.quo .u64) (.v 4) (.u (.conv .u64) (.o (.mul .i64) (.v 0) (.v 3)))) (.v 10))
 (.next 0 [(.v 8), (.u (.conv .i64) (.o (.shr .u64) (.u (.conv .u64) (.o (.add .i64) (.v 8) (.v 9))) (.i 1)))])
 (.ite (.o .eq (.v 10) (.o (.quo .u64) (.v 4) (.u (.conv .u64) (.o (.mul .i64) (.v 0) (.v 3)))))
 (.ite (.u .not (.o .le (.v 6) (.v 11)))
 (.next 0 [(.o (.add .i64) (.u (.conv .i64) (.o (.shr .u64) (.u (.conv .u64) (.o (.add .i64) (.v 8) (.v 9))) (.i 1))) (.i 1)), (.v 9)])
 (.next 0 [(.v 8), (.u (.conv .i64) (.o (.shr .u64) (.u (.conv .u64) (.o (.add .i64) (.v 8) (.v 9))) (.i 1)))]))
 (.next 0 [(.o (.add .i64) (.u (.conv .i64) (.o (.shr .u64) (.u (.conv .u64) (.o (.add .i64) (.v 8) (.v 9))) (.i 1))) (.i 1)), (.v 9)]))))
 (.leaf [(.v 8), (.o .le (.v 8) (.i 1000000000000))]))))))))
noncomputable def k_interval_half : Known Tryd.prog := known mixedOk [k_bits_Mul64, k_bits_Div64, k_bits_Add64] (by decide) [⟨5600002, [(5, 0), (6, 0)], [9, 10, 11, 12, 13, 14, 15, 16, 17, 7, 18, 19, 20, 21, 22, 23, 24], [], []⟩] plTypes plOk inFuncs insOk 6 ⟨26, [(.a (.ck (.int .i64))), (.a (.ck (.int .i64))), (.g [(.ck (.int .i64)), (.ck (.int .i64))])], (.t [(.a (.ck (.int .i64))), (.a (.ck .bool))])⟩ (fun args w => Tryd.call26 args w) tk_interval_half (by kernel_rfl)
theorem k_interval_half_f : k_interval_half.con.f = 26 := rfl
theorem k_interval_half_F (l : List Sc) : k_interval_half.F l = if l.length = 4 then tk_interval_half.den (gam (P := Tryd.prog) [k_bits_Mul64, k_bits_Div64, k_bits_Add64]) l [] else none := rfl
def tk_simulatorref02_Cmp : T (List Ex) :=
 (.call 72 [(.v 0), (.v 1)] 2
 (.call 72 [(.v 2), (.v 3)] 2
 (.call 74 [(.v 4), (.v 7)] 3
 (.call 74 [(.o (.sub .i64) (.i 0) (.v 6)), (.v 5)] 3
 (.call 73 [(.v 8), (.v 9), (.v 10), (.v 11), (.v 12), (.v 13)] 3
 (.ite (.o .and (.o .eq (.v 15) (.i 0)) (.o .and (.o .eq (.v 16) (.i 0)) (.b true)))
 (.leaf [(.i 0)])
 (.ite (.v 14)
 (.leaf [(.i (-1))])
 (.leaf [(.i 1)]))))))))
noncomputable def k_simulatorref02_Cmp : Known Tryd.prog := known mixedOk [k_simulatorref02_usual, k_simulatorref02_Product, k_simulatorref02_Both] (by decide) [] plTypes plOk inFuncs insOk 6 ⟨40, [(.g [(.ck (.int .i64)), (.ck (.int .i64))]), (.g [(.ck (.int .i64)), (.ck (.int .i64))])], (.c (.a (.ck (.int .i64))))⟩ (fun args w => Tryd.call40 args w) tk_simulatorref02_Cmp (by kernel_rfl)
theorem k_simulatorref02_Cmp_f : k_simulatorref02_Cmp.con.f = 40 := rfl
theorem k_simulatorref02_Cmp_F (l : List Sc) : k_simulatorref02_Cmp.F l = if l.length = 4 then tk_simulatorref02_Cmp.den (gam (P := Tryd.prog) [k_simulatorref02_usual, k_simulatorref02_Product, k_simulatorref02_Both]) l [] else none := rfl
def tk_simulatorref02_Add : T (List Ex) :=
 (.call 39 [(.v 0), (.v 1)] 1
 (.ite (.u .not (.v 4))
 (.leaf [(.i 0), (.i 0), (.b false)])
 (.call 39 [(.v 2), (.v 3)] 1
 (.ite (.u .not (.v 5))
 (.leaf [(.i 0), (.i 0), (.b false)])
 (.call 74 [(.v 0), (.v 3)] 3
 (.call 74 [(.v 2), (.v 1)] 3
 (.call 73 [(.v 6), (.v 7), (.v 8), (.v 9), (.v 10), (.v 11)] 3
 (.call 46 [(.v 1)] 1
 (.call 46 [(.v 3)] 1
 (.call 21 [(.v 15), (.v 16)] 2
 (.call 45 [(.v 12), (.v 13), (.v 14), (.v 17), (.v 18)] 3
 (.leaf [(.v 19), (.v 20), (.v 21)]))))))))))))
noncomputable def k_simulatorref02_Add : Known Tryd.prog := known mixedOk [k_simulatorref02_Valid, k_simulatorref02_Product, k_simulatorref02_Both, k_simulatorref02_Size, k_simulatorref02_Times, k_simulatorref02_Made] (by decide) [] plTypes plOk inFuncs insOk 6 ⟨42, [(.g [(.ck (.int .i64)), (.ck (.int .i64))]), (.g [(.ck (.int .i64)), (.ck (.int .i64))])], (.t [(.g [(.ck (.int .i64)), (.ck (.int .i64))]), (.a (.ck .bool))])⟩ (fun args w => Tryd.call42 args w) tk_simulatorref02_Add (by kernel_rfl)
theorem k_simulatorref02_Add_f : k_simulatorref02_Add.con.f = 42 := rfl
theorem k_simulatorref02_Add_F (l : List Sc) : k_simulatorref02_Add.F l = if l.length = 4 then tk_simulatorref02_Add.den (gam (P := Tryd.prog) [k_simulatorref02_Valid, k_simulatorref02_Product, k_simulatorref02_Both, k_simulatorref02_Size, k_simulatorref02_Times, k_simulatorref02_Made]) l [] else none := rfl
def tk_simulatorref02_Mul : T (List Ex) :=
 (.call 39 [(.v 0), (.v 1)] 1
 (.ite (.u .not (.v 4))
 (.leaf [(.i 0), (.i 0), (.b false)])
 (.call 39 [(.v 2), (.v 3)] 1
 (.ite (.u .not (.v 5))
 (.leaf [(.i 0), (.i 0), (.b false)])
 (.call 74 [(.v 0), (.v 2)] 3
 (.call 46 [(.v 1)] 1
 (.call 46 [(.v 3)] 1
 (.call 21 [(.v 9), (.v 10)] 2
 (.call 45 [(.v 6), (.v 7), (.v 8), (.v 11), (.v 12)] 3
 (.leaf [(.v 13), (.v 14), (.v 15)]))))))))))
noncomputable def k_simulatorref02_Mul : Known Tryd.prog := known mixedOk [k_simulatorref02_Valid, k_simulatorref02_Product, k_simulatorref02_Size, k_simulatorref02_Times, k_simulatorref02_Made] (by decide) [] plTypes plOk inFuncs insOk 6 ⟨44, [(.g [(.ck (.int .i64)), (.ck (.int .i64))]), (.g [(.ck (.int .i64)), (.ck (.int .i64))])], (.t [(.g [(.ck (.int .i64)), (.ck (.int .i64))]), (.a (.ck .bool))])⟩ (fun args w => Tryd.call44 args w) tk_simulatorref02_Mul (by kernel_rfl)
theorem k_simulatorref02_Mul_f : k_simulatorref02_Mul.con.f = 44 := rfl
theorem k_simulatorref02_Mul_F (l : List Sc) : k_simulatorref02_Mul.F l = if l.length = 4 then tk_simulatorref02_Mul.den (gam (P := Tryd.prog) [k_simulatorref02_Valid, k_simulatorref02_Product, k_simulatorref02_Size, k_simulatorref02_Times, k_simulatorref02_Made]) l [] else none := rfl
def tk_frac_sum : T (List Ex) :=
 (.call 67 [(.v 0), (.v 1)] 1
 (.ite (.u .not (.v 5))
 (.leaf [(.i 0), (.i 0), (.b false)])
 (.call 67 [(.v 2), (.v 3)] 1
 (.ite (.u .not (.v 6))
 (.leaf [(.i 0), (.i 0), (.b false)])
 (.call 58 [(.u (.conv .u64) (.v 1)), (.u (.conv .u64) (.v 3))] 1
 (.call 59 [(.v 0)] 1
 (.need (.o .ne (.v 7) (.i 0)) (.call 69 [(.v 8), (.o (.quo .u64) (.u (.conv .u64) (.v 3)) (.v 7))] 2
 (.call 59 [(.v 2)] 1
 (.need (.o .ne (.v 7) (.i 0)) (.call 69 [(.v 11), (.o (.quo .u64) (.u (.conv .u64) (.v 1)) (.v 7))] 2
 (.call 68 [(.o .lt (.v 0) (.i 0)), (.v 9), (.v 10), (.u .not (.o .beq (.o .lt (.v 2) (.i 0)) (.v 4))), (.v 12), (.v 13)] 3
 (.ite (.o .and (.o .eq (.v 15) (.i 0)) (.o .and (.o .eq (.v 16) (.i 0)) (.b true)))
 (.leaf [(.i 0), (.i 1), (.b true)])
 (.call 76 [(.v 15), (.v 16), (.v 7)] 1
 (.call 58 [(.v 17), (.v 7)] 1
 (.call 77 [(.v 15), (.v 16), (.v 18)] 2
 (.need (.o .ne (.v 7) (.i 0)) (.need (.o .ne (.v 18) (.i 0)) (.call 69 [(.o (.quo .u64) (.u (.conv .u64) (.v 1)) (.v 7)), (.o (.quo .u64) (.u (.conv .u64) (.v 3)) (.v 18))] 2
 (.ite (.u .not (.v 20))
 (.leaf [(.i 0), (.i 0), (.b false)])
 (.ite (.o .ne (.v 21) (.i 0))
 (.leaf [(.i 0), (.i 0), (.b false)])
 (.call 60 [(.v 14), (.v 19), (.v 22)] 3
 (.leaf [(.v 23), (.v 24), (.v 25)])))))))))))))))))))))))
noncomputable def k_frac_sum : Known Tryd.prog := known mixedOk [k_frac_Valid, k_frac_gcd, k_frac_size, k_frac_times, k_frac_signed, k_frac_wide_mod, k_frac_wide_over, k_frac_made] (by decide) [] plTypes plOk inFuncs insOk 6 ⟨47, [(.g [(.ck (.int .i64)), (.ck (.int .i64))]), (.g [(.ck (.int .i64)), (.ck (.int .i64))]), (.a (.ck .bool))], (.t [(.g [(.ck (.int .i64)), (.ck (.int .i64))]), (.a (.ck .bool))])⟩ (fun args w => Tryd.call47 args w) tk_frac_sum (by kernel_rfl)
theorem k_frac_sum_f : k_frac_sum.con.f = 47 := rfl
theorem k_frac_sum_F (l : List Sc) : k_frac_sum.F l = if l.length = 5 then tk_frac_sum.den (gam (P := Tryd.prog) [k_frac_Valid, k_frac_gcd, k_frac_size, k_frac_times, k_frac_signed, k_frac_wide_mod, k_frac_wide_over, k_frac_made]) l [] else none := rfl
def tk_simulatorref02_Div : T (List Ex) :=
 (.call 39 [(.v 0), (.v 1)] 1
 (.ite (.u .not (.v 4))
 (.leaf [(.i 0), (.i 0), (.b false)])
 (.call 39 [(.v 2), (.v 3)] 1
 (.ite (.u .not (.v 5))
 (.leaf [(.i 0), (.i 0), (.b false)])
 (.ite (.o .eq (.v 2) (.i 0))
 (.leaf [(.i 0), (.i 0), (.b false)])
 (.call 74 [(.v 0), (.v 3)] 3
 (.call 46 [(.v 1)] 1
 (.call 46 [(.v 2)] 1
 (.call 21 [(.v 9), (.v 10)] 2
 (.call 45 [(.u .not (.o .beq (.o .lt (.v 0) (.i 0)) (.o .lt (.v 2) (.i 0)))), (.v 7), (.v 8), (.v 11), (.v 12)] 3
 (.leaf [(.v 13), (.v 14), (.v 15)])))))))))))
noncomputable def k_simulatorref02_Div : Known Tryd.prog := known mixedOk [k_simulatorref02_Valid, k_simulatorref02_Product, k_simulatorref02_Size, k_simulatorref02_Times, k_simulatorref02_Made] (by decide) [] plTypes plOk inFuncs insOk 6 ⟨64, [(.g [(.ck (.int .i64)), (.ck (.int .i64))]), (.g [(.ck (.int .i64)), (.ck (.int .i64))])], (.t [(.g [(.ck (.int .i64)), (.ck (.int .i64))]), (.a (.ck .bool))])⟩ (fun args w => Tryd.call64 args w) tk_simulatorref02_Div (by kernel_rfl)
theorem k_simulatorref02_Div_f : k_simulatorref02_Div.con.f = 64 := rfl
theorem k_simulatorref02_Div_F (l : List Sc) : k_simulatorref02_Div.F l = if l.length = 4 then tk_simulatorref02_Div.den (gam (P := Tryd.prog) [k_simulatorref02_Valid, k_simulatorref02_Product, k_simulatorref02_Size, k_simulatorref02_Times, k_simulatorref02_Made]) l [] else none := rfl
def tk_simulatorref02_Sum : T (List Ex) :=
 (.loop [(.i 0), (.i 0), (.i 1)]
 (.ite (.o .lt (.v 1) (.u .len (.v 0)))
 (.need (.o .le (.i 0) (.v 1)) (.need (.o .lt (.v 1) (.u .len (.v 0))) (.call 42 [(.v 2), (.v 3), (.u (.cell 0) (.o .idx (.v 0) (.v 1))), (.u (.cell 1) (.o .idx (.v 0) (.v 1)))] 3
 (.ite (.u .not (.v 6))
 (.leaf [(.i 0), (.i 0), (.b false)])
 (.next 0 [(.o (.add .i64) (.v 1) (.i 1)), (.v 4), (.v 5)])))))
 (.leaf [(.v 2), (.v 3), (.b true)])))
noncomputable def k_simulatorref02_Sum : Known Tryd.prog := known mixedOk [k_simulatorref02_Add] (by decide) [⟨8000003, [(6, 0)], [8, 9, 10, 11, 15, 16, 17, 18, 19, 20, 14, 21, 22, 5, 23, 24, 25, 3, 12, 13], [(1, (0, 0)), (1, (1, 0))], []⟩] plTypes plOk inFuncs insOk 6 ⟨80, [(.a (.row 25 [(.int .i64), (.int .i64)] true))], (.t [(.g [(.ck (.int .i64)), (.ck (.int .i64))]), (.a (.ck .bool))])⟩ (fun args w => Tryd.call80 args w) tk_simulatorref02_Sum (by kernel_rfl)
theorem k_simulatorref02_Sum_f : k_simulatorref02_Sum.con.f = 80 := rfl
theorem k_simulatorref02_Sum_F (l : List Sc) : k_simulatorref02_Sum.F l = if l.length = 1 then tk_simulatorref02_Sum.den (gam (P := Tryd.prog) [k_simulatorref02_Add]) l [] else none := rfl
def tk_simulatorref49_Enough : T (List Ex) :=
 (.call 20 [(.v 4), (.i 1)] 3
 (.call 44 [(.v 5), (.v 6), (.v 2), (.v 3)] 3
 (.ite (.v 7)
 (.ite (.v 10)
 (.call 39 [(.v 0), (.v 1)] 1
 (.ite (.v 11)
 (.call 41 [(.v 0), (.v 1)] 2
 (.call 40 [(.v 8), (.v 9), (.v 12), (.v 13)] 1
 (.leaf [(.o .le (.v 14) (.i 0))])))
 (.leaf [(.b false)])))
 (.leaf [(.b false)]))
 (.leaf [(.b false)]))))
noncomputable def k_simulatorref49_Enough : Known Tryd.prog := known mixedOk [k_simulatorref02_Of, k_simulatorref02_Mul, k_simulatorref02_Valid, k_simulatorref49_size, k_simulatorref02_Cmp] (by decide) [] plTypes plOk inFuncs insOk 6 ⟨18, [(.g [(.ck (.int .i64)), (.ck (.int .i64)), (.ck (.int .i64)), (.ck (.int .i64))]), (.a (.ck (.int .i64)))], (.c (.a (.ck .bool)))⟩ (fun args w => Tryd.call18 args w) tk_simulatorref49_Enough (by kernel_rfl)
theorem k_simulatorref49_Enough_f : k_simulatorref49_Enough.con.f = 18 := rfl
theorem k_simulatorref49_Enough_F (l : List Sc) : k_simulatorref49_Enough.F l = if l.length = 5 then tk_simulatorref49_Enough.den (gam (P := Tryd.prog) [k_simulatorref02_Of, k_simulatorref02_Mul, k_simulatorref02_Valid, k_simulatorref49_size, k_simulatorref02_Cmp]) l [] else none := rfl
def tk_frac_Add : T (List Ex) :=
 (.call 47 [(.v 0), (.v 1), (.v 2), (.v 3), (.b false)] 3
 (.leaf [(.v 4), (.v 5), (.v 6)]))
noncomputable def k_frac_Add : Known Tryd.prog := known mixedOk [k_frac_sum] (by decide) [] plTypes plOk inFuncs insOk 6 ⟨23, [(.g [(.ck (.int .i64)), (.ck (.int .i64))]), (.g [(.ck (.int .i64)), (.ck (.int .i64))])], (.t [(.g [(.ck (.int .i64)), (.ck (.int .i64))]), (.a (.ck .bool))])⟩ (fun args w => Tryd.call23 args w) tk_frac_Add (by kernel_rfl)
theorem k_frac_Add_f : k_frac_Add.con.f = 23 := rfl
theorem k_frac_Add_F (l : List Sc) : k_frac_Add.F l = if l.length = 4 then tk_frac_Add.den (gam (P := Tryd.prog) [k_frac_sum]) l [] else none := rfl
def tk_frac_Sub : T (List Ex) :=
 (.call 47 [(.v 0), (.v 1), (.v 2), (.v 3), (.b true)] 3
 (.leaf [(.v 4), (.v 5), (.v 6)]))
noncomputable def k_frac_Sub : Known Tryd.prog := known mixedOk [k_frac_sum] (by decide) [] plTypes plOk inFuncs insOk 6 ⟨34, [(.g [(.ck (.int .i64)), (.ck (.int .i64))]), (.g [(.ck (.int .i64)), (.ck (.int .i64))])], (.t [(.g [(.ck (.int .i64)), (.ck (.int .i64))]), (.a (.ck .bool))])⟩ (fun args w => Tryd.call34 args w) tk_frac_Sub (by kernel_rfl)
theorem k_frac_Sub_f : k_frac_Sub.con.f = 34 := rfl
theorem k_frac_Sub_F (l : List Sc) : k_frac_Sub.F l = if l.length = 4 then tk_frac_Sub.den (gam (P := Tryd.prog) [k_frac_sum]) l [] else none := rfl
def tk_simulatorref02_Sub : T (List Ex) :=
 (.call 39 [(.v 2), (.v 3)] 1
 (.ite (.u .not (.v 4))
 (.leaf [(.i 0), (.i 0), (.b false)])
 (.call 70 [(.v 2), (.v 3)] 2
 (.call 42 [(.v 0), (.v 1), (.v 5), (.v 6)] 3
 (.leaf [(.v 7), (.v 8), (.v 9)])))))
noncomputable def k_simulatorref02_Sub : Known Tryd.prog := known mixedOk [k_simulatorref02_Valid, k_simulatorref02_Opposite, k_simulatorref02_Add] (by decide) [] plTypes plOk inFuncs insOk 6 ⟨38, [(.g [(.ck (.int .i64)), (.ck (.int .i64))]), (.g [(.ck (.int .i64)), (.ck (.int .i64))])], (.t [(.g [(.ck (.int .i64)), (.ck (.int .i64))]), (.a (.ck .bool))])⟩ (fun args w => Tryd.call38 args w) tk_simulatorref02_Sub (by kernel_rfl)
theorem k_simulatorref02_Sub_f : k_simulatorref02_Sub.con.f = 38 := rfl
theorem k_simulatorref02_Sub_F (l : List Sc) : k_simulatorref02_Sub.F l = if l.length = 4 then tk_simulatorref02_Sub.den (gam (P := Tryd.prog) [k_simulatorref02_Valid, k_simulatorref02_Opposite, k_simulatorref02_Add]) l [] else none := rfl
def tk_simulatorref48_mean : T (List Ex) :=
 (.call 80 [(.v 0)] 3
 (.ite (.u .not (.v 3))
 (.leaf [(.i 0), (.i 0), (.b false)])
 (.ite (.o .eq (.u .len (.v 0)) (.i 0))
 (.leaf [(.i 0), (.i 0), (.b false)])
 (.call 64 [(.v 1), (.v 2), (.u .len (.v 0)), (.i 1)] 3
 (.leaf [(.v 4), (.v 5), (.v 6)])))))
noncomputable def k_simulatorref48_mean : Known Tryd.prog := known mixedOk [k_simulatorref02_Sum, k_simulatorref02_Div] (by decide) [] plTypes plOk inFuncs insOk 6 ⟨61, [(.a (.row 25 [(.int .i64), (.int .i64)] true))], (.t [(.g [(.ck (.int .i64)), (.ck (.int .i64))]), (.a (.ck .bool))])⟩ (fun args w => Tryd.call61 args w) tk_simulatorref48_mean (by kernel_rfl)
theorem k_simulatorref48_mean_f : k_simulatorref48_mean.con.f = 61 := rfl
theorem k_simulatorref48_mean_F (l : List Sc) : k_simulatorref48_mean.F l = if l.length = 1 then tk_simulatorref48_mean.den (gam (P := Tryd.prog) [k_simulatorref02_Sum, k_simulatorref02_Div]) l [] else none := rfl
def tk_simulatorref48_deviations : T (List Ex) :=
 (.call 61 [(.v 0)] 3
 (.ite (.u .not (.v 3))
 (.leaf [.nil, (.b false)])
 (.loop [.nil, (.i 0)]
 (.ite (.o .lt (.v 5) (.u .len (.v 0)))
 (.need (.o .le (.i 0) (.v 5)) (.need (.o .lt (.v 5) (.u .len (.v 0))) (.call 38 [(.u (.cell 0) (.o .idx (.v 0) (.v 5))), (.u (.cell 1) (.o .idx (.v 0) (.v 5))), (.v 1), (.v 2)] 3
 (.ite (.u .not (.v 8))
 (.leaf [.nil, (.b false)])
 (.need (.o .le (.u .len (.o .snoc (.v 4) (.o .cons (.v 6) (.o .cons (.v 7) .nil)))) (.i 8796093022208)) (.next 0 [(.o .snoc (.v 4) (.o .cons (.v 6) (.o .cons (.v 7) .nil))), (.o (.add .i64) (.v 5) (.i 1))]))))))
 (.leaf [(.v 4), (.b true)])))))
noncomputable def k_simulatorref48_deviations : Known Tryd.prog := known mixedOk [k_simulatorref48_mean, k_simulatorref02_Sub] (by decide) [⟨6200006, [(6, 25), (7, 0)], [17, 18, 19, 20, 24, 25, 26, 27, 28, 29, 23, 30, 31, 8, 9, 32, 33, 2, 3, 34, 35, 36, 37, 21, 22], [], []⟩] plTypes plOk inFuncs insOk 6 ⟨62, [(.a (.row 25 [(.int .i64), (.int .i64)] true))], (.t [(.a (.row 25 [(.int .i64), (.int .i64)] true)), (.a (.ck .bool))])⟩ (fun args w => Tryd.call62 args w) tk_simulatorref48_deviations (by kernel_rfl)
theorem k_simulatorref48_deviations_f : k_simulatorref48_deviations.con.f = 62 := rfl
theorem k_simulatorref48_deviations_F (l : List Sc) : k_simulatorref48_deviations.F l = if l.length = 1 then tk_simulatorref48_deviations.den (gam (P := Tryd.prog) [k_simulatorref48_mean, k_simulatorref02_Sub]) l [] else none := rfl
def tk_simulatorref48_products : T (List Ex) :=
 (.loop [.nil, (.i 0)]
 (.ite (.o .lt (.v 3) (.u .len (.v 0)))
 (.need (.o .le (.i 0) (.v 3)) (.need (.o .lt (.v 3) (.u .len (.v 0))) (.need (.o .le (.i 0) (.v 3)) (.need (.o .lt (.v 3) (.u .len (.v 1))) (.call 44 [(.u (.cell 0) (.o .idx (.v 0) (.v 3))), (.u (.cell 1) (.o .idx (.v 0) (.v 3))), (.u (.cell 0) (.o .idx (.v 1) (.v 3))), (.u (.cell 1) (.o .idx (.v 1) (.v 3)))] 3
 (.ite (.u .not (.v 6))
 (.leaf [(.i 0), (.i 0), (.b false)])
 (.need (.o .le (.u .len (.o .snoc (.v 2) (.o .cons (.v 4) (.o .cons (.v 5) .nil)))) (.i 8796093022208)) (.next 0 [(.o .snoc (.v 2) (.o .cons (.v 4) (.o .cons (.v 5) .nil))), (.o (.add .i64) (.v 3) (.i 1))]))))))))
 (.call 80 [(.v 2)] 3
 (.leaf [(.v 4), (.v 5), (.v 6)]))))
noncomputable def k_simulatorref48_products : Known Tryd.prog := known mixedOk [k_simulatorref02_Mul, k_simulatorref02_Sum] (by decide) [⟨6300003, [(6, 25), (7, 0)], [10, 11, 12, 13, 17, 18, 19, 20, 21, 22, 23, 24, 25, 16, 26, 27, 8, 9, 28, 29, 30, 5, 31, 32, 33, 34, 14, 15], [], []⟩] plTypes plOk inFuncs insOk 6 ⟨63, [(.a (.row 25 [(.int .i64), (.int .i64)] true)), (.a (.row 25 [(.int .i64), (.int .i64)] true))], (.t [(.g [(.ck (.int .i64)), (.ck (.int .i64))]), (.a (.ck .bool))])⟩ (fun args w => Tryd.call63 args w) tk_simulatorref48_products (by kernel_rfl)
theorem k_simulatorref48_products_f : k_simulatorref48_products.con.f = 63 := rfl
theorem k_simulatorref48_products_F (l : List Sc) : k_simulatorref48_products.F l = if l.length = 2 then tk_simulatorref48_products.den (gam (P := Tryd.prog) [k_simulatorref02_Mul, k_simulatorref02_Sum]) l [] else none := rfl
def tk_frac_Sum : T (List Ex) :=
 (.loop [(.i 0), (.i 0), (.i 1)]
 (.ite (.o .lt (.v 1) (.u .len (.v 0)))
 (.need (.o .le (.i 0) (.v 1)) (.need (.o .lt (.v 1) (.u .len (.v 0))) (.call 23 [(.v 2), (.v 3), (.u (.cell 0) (.o .idx (.v 0) (.v 1))), (.u (.cell 1) (.o .idx (.v 0) (.v 1)))] 3
 (.ite (.u .not (.v 6))
 (.leaf [(.i 0), (.i 0), (.b false)])
 (.next 0 [(.o (.add .i64) (.v 1) (.i 1)), (.v 4), (.v 5)])))))
 (.leaf [(.v 2), (.v 3), (.b true)])))
noncomputable def k_frac_Sum : Known Tryd.prog := known mixedOk [k_frac_Add] (by decide) [⟨7800003, [(12, 0)], [13, 14, 15, 6, 17, 18, 19, 16, 20, 21, 7, 8, 22, 23, 24, 3, 25, 26], [(1, (0, 0)), (1, (1, 0))], []⟩] plTypes plOk inFuncs insOk 6 ⟨78, [(.a (.row 25 [(.int .i64), (.int .i64)] true))], (.t [(.g [(.ck (.int .i64)), (.ck (.int .i64))]), (.a (.ck .bool))])⟩ (fun args w => Tryd.call78 args w) tk_frac_Sum (by kernel_rfl)
theorem k_frac_Sum_f : k_frac_Sum.con.f = 78 := rfl
theorem k_frac_Sum_F (l : List Sc) : k_frac_Sum.F l = if l.length = 1 then tk_frac_Sum.den (gam (P := Tryd.prog) [k_frac_Add]) l [] else none := rfl
def tk_interval_Contains : T (List Ex) :=
 (.call 34 [(.v 4), (.v 5), (.v 0), (.v 1)] 3
 (.ite (.v 8)
 (.call 35 [(.v 0), (.v 1), (.v 2), (.v 3)] 1
 (.ite (.v 9)
 (.call 37 [(.v 6), (.v 7)] 2
 (.call 36 [(.v 10), (.v 11), (.v 2), (.v 3)] 1
 (.leaf [(.o .le (.v 12) (.i 0))])))
 (.leaf [(.b false)])))
 (.leaf [(.b false)])))
noncomputable def k_interval_Contains : Known Tryd.prog := known mixedOk [k_frac_Sub, k_interval_valid, k_interval_size, k_frac_Cmp] (by decide) [] plTypes plOk inFuncs insOk 6 ⟨13, [(.g [(.ck (.int .i64)), (.ck (.int .i64)), (.ck (.int .i64)), (.ck (.int .i64))]), (.g [(.ck (.int .i64)), (.ck (.int .i64))])], (.c (.a (.ck .bool)))⟩ (fun args w => Tryd.call13 args w) tk_interval_Contains (by kernel_rfl)
theorem k_interval_Contains_f : k_interval_Contains.con.f = 13 := rfl
theorem k_interval_Contains_F (l : List Sc) : k_interval_Contains.F l = if l.length = 6 then tk_interval_Contains.den (gam (P := Tryd.prog) [k_frac_Sub, k_interval_valid, k_interval_size, k_frac_Cmp]) l [] else none := rfl
def tk_simulatorref49_Contains : T (List Ex) :=
 (.call 38 [(.v 4), (.v 5), (.v 0), (.v 1)] 3
 (.ite (.v 8)
 (.call 39 [(.v 2), (.v 3)] 1
 (.ite (.v 9)
 (.call 41 [(.v 6), (.v 7)] 2
 (.call 40 [(.v 10), (.v 11), (.v 2), (.v 3)] 1
 (.leaf [(.o .le (.v 12) (.i 0))])))
 (.leaf [(.b false)])))
 (.leaf [(.b false)])))
noncomputable def k_simulatorref49_Contains : Known Tryd.prog := known mixedOk [k_simulatorref02_Sub, k_simulatorref02_Valid, k_simulatorref49_size, k_simulatorref02_Cmp] (by decide) [] plTypes plOk inFuncs insOk 6 ⟨14, [(.g [(.ck (.int .i64)), (.ck (.int .i64)), (.ck (.int .i64)), (.ck (.int .i64))]), (.g [(.ck (.int .i64)), (.ck (.int .i64))])], (.c (.a (.ck .bool)))⟩ (fun args w => Tryd.call14 args w) tk_simulatorref49_Contains (by kernel_rfl)
theorem k_simulatorref49_Contains_f : k_simulatorref49_Contains.con.f = 14 := rfl
theorem k_simulatorref49_Contains_F (l : List Sc) : k_simulatorref49_Contains.F l = if l.length = 6 then tk_simulatorref49_Contains.den (gam (P := Tryd.prog) [k_simulatorref02_Sub, k_simulatorref02_Valid, k_simulatorref49_size, k_simulatorref02_Cmp]) l [] else none := rfl
def tk_interval_Above : T (List Ex) :=
 (.call 34 [(.v 0), (.v 1), (.v 2), (.v 3)] 3
 (.call 23 [(.v 4), (.v 5), (.v 6), (.v 7)] 3
 (.ite (.v 10)
 (.ite (.v 13)
 (.call 36 [(.v 8), (.v 9), (.v 11), (.v 12)] 1
 (.leaf [(.o .lt (.i 0) (.v 14))]))
 (.leaf [(.b false)]))
 (.leaf [(.b false)]))))
noncomputable def k_interval_Above : Known Tryd.prog := known mixedOk [k_frac_Sub, k_frac_Add, k_frac_Cmp] (by decide) [] plTypes plOk inFuncs insOk 6 ⟨15, [(.g [(.ck (.int .i64)), (.ck (.int .i64)), (.ck (.int .i64)), (.ck (.int .i64))]), (.g [(.ck (.int .i64)), (.ck (.int .i64)), (.ck (.int .i64)), (.ck (.int .i64))])], (.c (.a (.ck .bool)))⟩ (fun args w => Tryd.call15 args w) tk_interval_Above (by kernel_rfl)
theorem k_interval_Above_f : k_interval_Above.con.f = 15 := rfl
theorem k_interval_Above_F (l : List Sc) : k_interval_Above.F l = if l.length = 8 then tk_interval_Above.den (gam (P := Tryd.prog) [k_frac_Sub, k_frac_Add, k_frac_Cmp]) l [] else none := rfl
def tk_simulatorref49_Above : T (List Ex) :=
 (.call 38 [(.v 0), (.v 1), (.v 2), (.v 3)] 3
 (.call 42 [(.v 4), (.v 5), (.v 6), (.v 7)] 3
 (.ite (.v 10)
 (.ite (.v 13)
 (.call 40 [(.v 8), (.v 9), (.v 11), (.v 12)] 1
 (.leaf [(.o .lt (.i 0) (.v 14))]))
 (.leaf [(.b false)]))
 (.leaf [(.b false)]))))
noncomputable def k_simulatorref49_Above : Known Tryd.prog := known mixedOk [k_simulatorref02_Sub, k_simulatorref02_Add, k_simulatorref02_Cmp] (by decide) [] plTypes plOk inFuncs insOk 6 ⟨16, [(.g [(.ck (.int .i64)), (.ck (.int .i64)), (.ck (.int .i64)), (.ck (.int .i64))]), (.g [(.ck (.int .i64)), (.ck (.int .i64)), (.ck (.int .i64)), (.ck (.int .i64))])], (.c (.a (.ck .bool)))⟩ (fun args w => Tryd.call16 args w) tk_simulatorref49_Above (by kernel_rfl)
theorem k_simulatorref49_Above_f : k_simulatorref49_Above.con.f = 16 := rfl
theorem k_simulatorref49_Above_F (l : List Sc) : k_simulatorref49_Above.F l = if l.length = 8 then tk_simulatorref49_Above.den (gam (P := Tryd.prog) [k_simulatorref02_Sub, k_simulatorref02_Add, k_simulatorref02_Cmp]) l [] else none := rfl
def tk_simulatorref48_Mean : T (List Ex) :=
 (.ite (.o .lt (.i 50) (.u .len (.v 0)))
 (.leaf [(.i 0), (.i 0), (.b false)])
 (.call 61 [(.v 0)] 3
 (.leaf [(.v 1), (.v 2), (.v 3)])))
noncomputable def k_simulatorref48_Mean : Known Tryd.prog := known mixedOk [k_simulatorref48_mean] (by decide) [] plTypes plOk inFuncs insOk 6 ⟨28, [(.a (.row 25 [(.int .i64), (.int .i64)] true))], (.t [(.g [(.ck (.int .i64)), (.ck (.int .i64))]), (.a (.ck .bool))])⟩ (fun args w => Tryd.call28 args w) tk_simulatorref48_Mean (by kernel_rfl)
theorem k_simulatorref48_Mean_f : k_simulatorref48_Mean.con.f = 28 := rfl
theorem k_simulatorref48_Mean_F (l : List Sc) : k_simulatorref48_Mean.F l = if l.length = 1 then tk_simulatorref48_Mean.den (gam (P := Tryd.prog) [k_simulatorref48_mean]) l [] else none := rfl
def tk_simulatorref48_Variance : T (List Ex) :=
 (.ite (.o .lt (.u .len (.v 0)) (.i 2))
 (.leaf [(.i 0), (.i 0), (.b false)])
 (.ite (.o .lt (.i 50) (.u .len (.v 0)))
 (.leaf [(.i 0), (.i 0), (.b false)])
 (.call 62 [(.v 0)] 2
 (.call 63 [(.v 1), (.v 1)] 3
 (.ite (.u .not (.v 2))
 (.leaf [(.i 0), (.i 0), (.b false)])
 (.ite (.u .not (.v 5))
 (.leaf [(.i 0), (.i 0), (.b false)])
 (.call 64 [(.v 3), (.v 4), (.o (.sub .i64) (.u .len (.v 0)) (.i 1)), (.i 1)] 3
 (.leaf [(.v 6), (.v 7), (.v 8)]))))))))
noncomputable def k_simulatorref48_Variance : Known Tryd.prog := known mixedOk [k_simulatorref48_deviations, k_simulatorref48_products, k_simulatorref02_Div] (by decide) [] plTypes plOk inFuncs insOk 6 ⟨29, [(.a (.row 25 [(.int .i64), (.int .i64)] true))], (.t [(.g [(.ck (.int .i64)), (.ck (.int .i64))]), (.a (.ck .bool))])⟩ (fun args w => Tryd.call29 args w) tk_simulatorref48_Variance (by kernel_rfl)
theorem k_simulatorref48_Variance_f : k_simulatorref48_Variance.con.f = 29 := rfl
theorem k_simulatorref48_Variance_F (l : List Sc) : k_simulatorref48_Variance.F l = if l.length = 1 then tk_simulatorref48_Variance.den (gam (P := Tryd.prog) [k_simulatorref48_deviations, k_simulatorref48_products, k_simulatorref02_Div]) l [] else none := rfl
def tk_batch_mean : T (List Ex) :=
 (.call 78 [(.v 0)] 3
 (.ite (.u .not (.v 3))
 (.leaf [(.i 0), (.i 0), (.b false)])
 (.ite (.o .eq (.u .len (.v 0)) (.i 0))
 (.leaf [(.i 0), (.i 0), (.b false)])
 (.call 52 [(.u .len (.v 0))] 2
 (.call 51 [(.v 1), (.v 2), (.v 4), (.v 5)] 3
 (.leaf [(.v 6), (.v 7), (.v 8)]))))))
noncomputable def k_batch_mean : Known Tryd.prog := known mixedOk [k_frac_Sum, k_batch_whole, k_frac_Div] (by decide) [] plTypes plOk inFuncs insOk 6 ⟨48, [(.a (.row 25 [(.int .i64), (.int .i64)] true))], (.t [(.g [(.ck (.int .i64)), (.ck (.int .i64))]), (.a (.ck .bool))])⟩ (fun args w => Tryd.call48 args w) tk_batch_mean (by kernel_rfl)
theorem k_batch_mean_f : k_batch_mean.con.f = 48 := rfl
theorem k_batch_mean_F (l : List Sc) : k_batch_mean.F l = if l.length = 1 then tk_batch_mean.den (gam (P := Tryd.prog) [k_frac_Sum, k_batch_whole, k_frac_Div]) l [] else none := rfl
def tk_batch_deviations : T (List Ex) :=
 (.call 48 [(.v 0)] 3
 (.ite (.u .not (.v 3))
 (.leaf [.nil, (.b false)])
 (.loop [.nil, (.i 0)]
 (.ite (.o .lt (.v 5) (.u .len (.v 0)))
 (.need (.o .le (.i 0) (.v 5)) (.need (.o .lt (.v 5) (.u .len (.v 0))) (.call 34 [(.u (.cell 0) (.o .idx (.v 0) (.v 5))), (.u (.cell 1) (.o .idx (.v 0) (.v 5))), (.v 1), (.v 2)] 3
 (.ite (.u .not (.v 8))
 (.leaf [.nil, (.b false)])
 (.need (.o .le (.u .len (.o .snoc (.v 4) (.o .cons (.v 6) (.o .cons (.v 7) .nil)))) (.i 8796093022208)) (.next 0 [(.o .snoc (.v 4) (.o .cons (.v 6) (.o .cons (.v 7) .nil))), (.o (.add .i64) (.v 5) (.i 1))]))))))
 (.leaf [(.v 4), (.b true)])))))
noncomputable def k_batch_deviations : Known Tryd.prog := known mixedOk [k_batch_mean, k_frac_Sub] (by decide) [⟨4900006, [(6, 25), (20, 0)], [21, 22, 23, 8, 25, 26, 27, 24, 28, 29, 9, 10, 30, 31, 2, 3, 32, 33, 34, 35, 36], [], []⟩] plTypes plOk inFuncs insOk 6 ⟨49, [(.a (.row 25 [(.int .i64), (.int .i64)] true))], (.t [(.a (.row 25 [(.int .i64), (.int .i64)] true)), (.a (.ck .bool))])⟩ (fun args w => Tryd.call49 args w) tk_batch_deviations (by kernel_rfl)
theorem k_batch_deviations_f : k_batch_deviations.con.f = 49 := rfl
theorem k_batch_deviations_F (l : List Sc) : k_batch_deviations.F l = if l.length = 1 then tk_batch_deviations.den (gam (P := Tryd.prog) [k_batch_mean, k_frac_Sub]) l [] else none := rfl
def tk_batch_products : T (List Ex) :=
 (.loop [.nil, (.i 0)]
 (.ite (.o .lt (.v 3) (.u .len (.v 0)))
 (.need (.o .le (.i 0) (.v 3)) (.need (.o .lt (.v 3) (.u .len (.v 0))) (.need (.o .le (.i 0) (.v 3)) (.need (.o .lt (.v 3) (.u .len (.v 1))) (.call 43 [(.u (.cell 0) (.o .idx (.v 0) (.v 3))), (.u (.cell 1) (.o .idx (.v 0) (.v 3))), (.u (.cell 0) (.o .idx (.v 1) (.v 3))), (.u (.cell 1) (.o .idx (.v 1) (.v 3)))] 3
 (.ite (.u .not (.v 6))
 (.leaf [(.i 0), (.i 0), (.b false)])
 (.need (.o .le (.u .len (.o .snoc (.v 2) (.o .cons (.v 4) (.o .cons (.v 5) .nil)))) (.i 8796093022208)) (.next 0 [(.o .snoc (.v 2) (.o .cons (.v 4) (.o .cons (.v 5) .nil))), (.o (.add .i64) (.v 3) (.i 1))]))))))))
 (.call 78 [(.v 2)] 3
 (.leaf [(.v 4), (.v 5), (.v 6)]))))
noncomputable def k_batch_products : Known Tryd.prog := known mixedOk [k_frac_Mul, k_frac_Sum] (by decide) [⟨5000003, [(6, 25), (12, 0)], [13, 14, 7, 16, 17, 18, 19, 20, 21, 22, 23, 24, 15, 25, 26, 8, 9, 27, 28, 29, 5, 30, 31, 32, 33, 34], [], []⟩] plTypes plOk inFuncs insOk 6 ⟨50, [(.a (.row 25 [(.int .i64), (.int .i64)] true)), (.a (.row 25 [(.int .i64), (.int .i64)] true))], (.t [(.g [(.ck (.int .i64)), (.ck (.int .i64))]), (.a (.ck .bool))])⟩ (fun args w => Tryd.call50 args w) tk_batch_products (by kernel_rfl)
theorem k_batch_products_f : k_batch_products.con.f = 50 := rfl
theorem k_batch_products_F (l : List Sc) : k_batch_products.F l = if l.length = 2 then tk_batch_products.den (gam (P := Tryd.prog) [k_frac_Mul, k_frac_Sum]) l [] else none := rfl
def tk_simulatorref49_Of : T (List Ex) :=
 (.ite (.o .lt (.u .len (.v 0)) (.i 2))
 (.leaf [(.i 0), (.i 0), (.i 0), (.i 0), (.i 7)])
 (.ite (.o .lt (.i 50) (.u .len (.v 0)))
 (.leaf [(.i 0), (.i 0), (.i 0), (.i 0), (.i 6)])
 (.call 28 [(.v 0)] 3
 (.call 29 [(.v 0)] 3
 (.ite (.u .not (.v 3))
 (.leaf [(.i 0), (.i 0), (.i 0), (.i 0), (.i 2)])
 (.ite (.u .not (.v 6))
 (.leaf [(.i 0), (.i 0), (.i 0), (.i 0), (.i 2)])
 (.call 12 [(.o (.sub .i64) (.u .len (.v 0)) (.i 1))] 2
 (.call 21 [(.u (.conv .u64) (.u .len (.v 0))), (.u (.conv .u64) (.v 5))] 2
 (.call 21 [(.u (.conv .u64) (.v 7)), (.u (.conv .u64) (.v 7))] 2
 (.call 31 [(.v 11), (.v 12), (.u (.conv .u64) (.v 4))] 2
 (.call 30 [(.v 13), (.v 14), (.v 9), (.v 10)] 4
 (.ite (.u .not (.o .and (.o .eq (.v 17) (.i 0)) (.o .and (.o .eq (.v 18) (.i 0)) (.b true))))
 (.call 32 [(.v 15), (.v 16), (.i 0), (.i 1)] 2
 (.call 33 [(.v 19), (.v 20)] 2
 (.ite (.u .not (.v 22))
 (.leaf [(.i 0), (.i 0), (.i 0), (.i 0), (.i 2)])
 (.call 20 [(.v 21), (.i 1000)] 3
 (.leaf [(.v 1), (.v 2), (.v 23), (.v 24), (.i 0)])))))
 (.call 33 [(.v 15), (.v 16)] 2
 (.ite (.u .not (.v 20))
 (.leaf [(.i 0), (.i 0), (.i 0), (.i 0), (.i 2)])
 (.call 20 [(.v 19), (.i 1000)] 3
 (.leaf [(.v 1), (.v 2), (.v 21), (.v 22), (.i 0)]))))))))))))))))
noncomputable def k_simulatorref49_Of : Known Tryd.prog := known mixedOk [k_simulatorref48_Mean, k_simulatorref48_Variance, k_simulatorref49_Quantile, k_simulatorref02_Times, k_simulatorref02_Scale, k_simulatorref02_Divide, k_simulatorref02_Plus, k_simulatorref49_least, k_simulatorref02_Of] (by decide) [] plTypes plOk inFuncs insOk 6 ⟨10, [(.a (.row 25 [(.int .i64), (.int .i64)] true))], (.t [(.g [(.ck (.int .i64)), (.ck (.int .i64)), (.ck (.int .i64)), (.ck (.int .i64))]), (.a (.ck (.int .i64)))])⟩ (fun args w => Tryd.call10 args w) tk_simulatorref49_Of (by kernel_rfl)
theorem k_simulatorref49_Of_f : k_simulatorref49_Of.con.f = 10 := rfl
theorem k_simulatorref49_Of_F (l : List Sc) : k_simulatorref49_Of.F l = if l.length = 1 then tk_simulatorref49_Of.den (gam (P := Tryd.prog) [k_simulatorref48_Mean, k_simulatorref48_Variance, k_simulatorref49_Quantile, k_simulatorref02_Times, k_simulatorref02_Scale, k_simulatorref02_Divide, k_simulatorref02_Plus, k_simulatorref49_least, k_simulatorref02_Of]) l [] else none := rfl
def tk_batch_Mean : T (List Ex) :=
 (.ite (.o .lt (.i 50) (.u .len (.v 0)))
 (.leaf [(.i 0), (.i 0), (.b false)])
 (.call 48 [(.v 0)] 3
 (.leaf [(.v 1), (.v 2), (.v 3)])))
noncomputable def k_batch_Mean : Known Tryd.prog := known mixedOk [k_batch_mean] (by decide) [] plTypes plOk inFuncs insOk 6 ⟨24, [(.a (.row 25 [(.int .i64), (.int .i64)] true))], (.t [(.g [(.ck (.int .i64)), (.ck (.int .i64))]), (.a (.ck .bool))])⟩ (fun args w => Tryd.call24 args w) tk_batch_Mean (by kernel_rfl)
theorem k_batch_Mean_f : k_batch_Mean.con.f = 24 := rfl
theorem k_batch_Mean_F (l : List Sc) : k_batch_Mean.F l = if l.length = 1 then tk_batch_Mean.den (gam (P := Tryd.prog) [k_batch_mean]) l [] else none := rfl
def tk_batch_Variance : T (List Ex) :=
 (.ite (.o .lt (.u .len (.v 0)) (.i 2))
 (.leaf [(.i 0), (.i 0), (.b false)])
 (.ite (.o .lt (.i 50) (.u .len (.v 0)))
 (.leaf [(.i 0), (.i 0), (.b false)])
 (.call 49 [(.v 0)] 2
 (.ite (.u .not (.v 2))
 (.leaf [(.i 0), (.i 0), (.b false)])
 (.call 50 [(.v 1), (.v 1)] 3
 (.ite (.u .not (.v 5))
 (.leaf [(.i 0), (.i 0), (.b false)])
 (.call 52 [(.o (.sub .i64) (.u .len (.v 0)) (.i 1))] 2
 (.call 51 [(.v 3), (.v 4), (.v 6), (.v 7)] 3
 (.leaf [(.v 8), (.v 9), (.v 10)])))))))))
noncomputable def k_batch_Variance : Known Tryd.prog := known mixedOk [k_batch_deviations, k_batch_products, k_batch_whole, k_frac_Div] (by decide) [] plTypes plOk inFuncs insOk 6 ⟨25, [(.a (.row 25 [(.int .i64), (.int .i64)] true))], (.t [(.g [(.ck (.int .i64)), (.ck (.int .i64))]), (.a (.ck .bool))])⟩ (fun args w => Tryd.call25 args w) tk_batch_Variance (by kernel_rfl)
theorem k_batch_Variance_f : k_batch_Variance.con.f = 25 := rfl
theorem k_batch_Variance_F (l : List Sc) : k_batch_Variance.F l = if l.length = 1 then tk_batch_Variance.den (gam (P := Tryd.prog) [k_batch_deviations, k_batch_products, k_batch_whole, k_frac_Div]) l [] else none := rfl
def tk_interval_Of : T (List Ex) :=
 (.ite (.o .lt (.u .len (.v 0)) (.i 2))
 (.leaf [(.i 0), (.i 0), (.i 0), (.i 0), (.i 7)])
 (.ite (.o .lt (.i 50) (.u .len (.v 0)))
 (.leaf [(.i 0), (.i 0), (.i 0), (.i 0), (.i 6)])
 (.call 24 [(.v 0)] 3
 (.call 25 [(.v 0)] 3
 (.ite (.u .not (.v 3))
 (.leaf [(.i 0), (.i 0), (.i 0), (.i 0), (.i 2)])
 (.ite (.u .not (.v 6))
 (.leaf [(.i 0), (.i 0), (.i 0), (.i 0), (.i 2)])
 (.call 11 [(.o (.sub .i64) (.u .len (.v 0)) (.i 1))] 2
 (.call 26 [(.u .len (.v 0)), (.v 7), (.v 4), (.v 5)] 2
 (.ite (.u .not (.v 10))
 (.leaf [(.i 0), (.i 0), (.i 0), (.i 0), (.i 2)])
 (.call 27 [(.v 9), (.i 1000)] 3
 (.leaf [(.v 1), (.v 2), (.v 11), (.v 12), (.i 0)])))))))))))
noncomputable def k_interval_Of : Known Tryd.prog := known mixedOk [k_batch_Mean, k_batch_Variance, k_interval_Quantile, k_interval_half, k_frac_Of] (by decide) [] plTypes plOk inFuncs insOk 6 ⟨9, [(.a (.row 25 [(.int .i64), (.int .i64)] true))], (.t [(.g [(.ck (.int .i64)), (.ck (.int .i64)), (.ck (.int .i64)), (.ck (.int .i64))]), (.a (.ck (.int .i64)))])⟩ (fun args w => Tryd.call9 args w) tk_interval_Of (by kernel_rfl)
theorem k_interval_Of_f : k_interval_Of.con.f = 9 := rfl
theorem k_interval_Of_F (l : List Sc) : k_interval_Of.F l = if l.length = 1 then tk_interval_Of.den (gam (P := Tryd.prog) [k_batch_Mean, k_batch_Variance, k_interval_Quantile, k_interval_half, k_frac_Of]) l [] else none := rfl
def tk_simulatorlaw49_awake : T (List Ex) :=
 (.call 19 [(.i 1), (.i 1)] 2
 (.call 19 [(.i 2), (.i 1)] 2
 (.call 19 [(.i 3), (.i 1)] 2
 (.call 9 [(.o .cons (.o .cons (.v 0) (.o .cons (.v 1) .nil)) (.o .cons (.o .cons (.v 2) (.o .cons (.v 3) .nil)) (.o .cons (.o .cons (.v 4) (.o .cons (.v 5) .nil)) .nil)))] 5
 (.call 19 [(.i 0), (.i 1)] 2
 (.call 19 [(.i 1), (.i 1)] 2
 (.call 9 [(.o .cons (.o .cons (.v 11) (.o .cons (.v 12) .nil)) (.o .cons (.o .cons (.v 13) (.o .cons (.v 14) .nil)) .nil))] 5
 (.call 19 [(.i 5), (.i 1)] 2
 (.call 19 [(.i 1), (.i 2)] 2
 (.call 11 [(.i 2)] 2
 (.ite (.o .eq (.v 10) (.i 0))
 (.call 19 [(.i 2), (.i 1)] 2
 (.call 19 [(.i 497), (.i 200)] 2
 (.ite (.o .and (.o .and (.o .eq (.v 6) (.v 26)) (.o .and (.o .eq (.v 7) (.v 27)) (.b true))) (.o .and (.o .and (.o .eq (.v 8) (.v 28)) (.o .and (.o .eq (.v 9) (.v 29)) (.b true))) (.b true)))
 (.ite (.o .eq (.v 19) (.i 0))
 (.call 19 [(.i 6353), (.i 1000)] 2
 (.ite (.o .and (.o .eq (.v 17) (.v 30)) (.o .and (.o .eq (.v 18) (.v 31)) (.b true)))
 (.ite (.o .eq (.v 24) (.i 4303))
 (.ite (.v 25)
 (.call 17 [(.v 20), (.v 21), (.v 22), (.v 23), (.i 10)] 1
 (.ite (.v 32)
 (.call 17 [(.v 20), (.v 21), (.v 22), (.v 23), (.i 11)] 1
 (.ite (.u .not (.v 33))
 (.call 19 [(.i 9), (.i 2)] 2
 (.call 13 [(.v 20), (.v 21), (.v 22), (.v 23), (.v 34), (.v 35)] 1
 (.ite (.v 36)
 (.call 19 [(.i 4), (.i 1)] 2
 (.call 13 [(.v 20), (.v 21), (.v 22), (.v 23), (.v 37), (.v 38)] 1
 (.ite (.u .not (.v 39))
 (.call 19 [(.i 4), (.i 1)] 2
 (.call 19 [(.i 1), (.i 4)] 2
 (.call 15 [(.v 20), (.v 21), (.v 22), (.v 23), (.v 40), (.v 41), (.v 42), (.v 43)] 1
 (.ite (.v 44)
 (.call 15 [(.v 20), (.v 21), (.v 22), (.v 23), (.v 20), (.v 21), (.v 22), (.v 23)] 1
 (.leaf [(.u .not (.v 45))]))
 (.leaf [(.b false)])))))
 (.leaf [(.b false)]))))
 (.leaf [(.b false)]))))
 (.leaf [(.b false)])))
 (.leaf [(.b false)])))
 (.leaf [(.b false)]))
 (.leaf [(.b false)]))
 (.leaf [(.b false)])))
 (.leaf [(.b false)]))
 (.leaf [(.b false)]))))
 (.leaf [(.b false)]))))))))))))
noncomputable def k_simulatorlaw49_awake : Known Tryd.prog := known mixedOk [k_simulatorlaw49_of, k_interval_Of, k_interval_Quantile, k_interval_Enough, k_interval_Contains, k_interval_Above] (by decide) [] plTypes plOk inFuncs insOk 6 ⟨8, [], (.c (.a (.ck .bool)))⟩ (fun args w => Tryd.call8 args w) tk_simulatorlaw49_awake (by kernel_rfl)
theorem k_simulatorlaw49_awake_f : k_simulatorlaw49_awake.con.f = 8 := rfl
theorem k_simulatorlaw49_awake_F (l : List Sc) : k_simulatorlaw49_awake.F l = if l.length = 0 then tk_simulatorlaw49_awake.den (gam (P := Tryd.prog) [k_simulatorlaw49_of, k_interval_Of, k_interval_Quantile, k_interval_Enough, k_interval_Contains, k_interval_Above]) l [] else none := rfl
def tk_simulatorlaw49_IntervalOf : T (List Ex) :=
 (.ite (.o .lt (.i 60) (.u .len (.v 0)))
 (.call 8 [] 1
 (.leaf [(.v 2)]))
 (.call 9 [(.v 0)] 5
 (.call 10 [(.v 0)] 5
 (.call 11 [(.v 1)] 2
 (.call 12 [(.v 1)] 2
 (.ite (.o .and (.o .and (.o .eq (.v 2) (.v 7)) (.o .and (.o .eq (.v 3) (.v 8)) (.b true))) (.o .and (.o .and (.o .eq (.v 4) (.v 9)) (.o .and (.o .eq (.v 5) (.v 10)) (.b true))) (.b true)))
 (.ite (.o .eq (.v 6) (.v 11))
 (.ite (.o .eq (.v 12) (.v 14))
 (.ite (.o .beq (.v 13) (.v 15))
 (.call 8 [] 1
 (.leaf [(.v 16)]))
 (.leaf [(.b false)]))
 (.leaf [(.b false)]))
 (.leaf [(.b false)]))
 (.leaf [(.b false)])))))))
noncomputable def k_simulatorlaw49_IntervalOf : Known Tryd.prog := known mixedOk [k_simulatorlaw49_awake, k_interval_Of, k_simulatorref49_Of, k_interval_Quantile, k_simulatorref49_Quantile] (by decide) [] plTypes plOk inFuncs insOk 6 ⟨3, [(.a (.row 25 [(.int .i64), (.int .i64)] true)), (.a (.ck (.int .i64)))], (.c (.a (.ck .bool)))⟩ (fun args w => Tryd.call3 args w) tk_simulatorlaw49_IntervalOf (by kernel_rfl)
theorem k_simulatorlaw49_IntervalOf_f : k_simulatorlaw49_IntervalOf.con.f = 3 := rfl
theorem k_simulatorlaw49_IntervalOf_F (l : List Sc) : k_simulatorlaw49_IntervalOf.F l = if l.length = 2 then tk_simulatorlaw49_IntervalOf.den (gam (P := Tryd.prog) [k_simulatorlaw49_awake, k_interval_Of, k_simulatorref49_Of, k_interval_Quantile, k_simulatorref49_Quantile]) l [] else none := rfl
def tk_simulatorlaw49_IntervalTells : T (List Ex) :=
 (.call 13 [(.v 0), (.v 1), (.v 2), (.v 3), (.v 8), (.v 9)] 1
 (.call 14 [(.v 0), (.v 1), (.v 2), (.v 3), (.v 8), (.v 9)] 1
 (.ite (.o .beq (.v 12) (.v 13))
 (.call 15 [(.v 0), (.v 1), (.v 2), (.v 3), (.v 4), (.v 5), (.v 6), (.v 7)] 1
 (.call 16 [(.v 0), (.v 1), (.v 2), (.v 3), (.v 4), (.v 5), (.v 6), (.v 7)] 1
 (.ite (.o .beq (.v 14) (.v 15))
 (.call 17 [(.v 0), (.v 1), (.v 2), (.v 3), (.v 10)] 1
 (.call 18 [(.v 0), (.v 1), (.v 2), (.v 3), (.v 10)] 1
 (.ite (.o .beq (.v 16) (.v 17))
 (.call 8 [] 1
 (.leaf [(.v 18)]))
 (.leaf [(.b false)]))))
 (.leaf [(.b false)]))))
 (.leaf [(.b false)]))))
noncomputable def k_simulatorlaw49_IntervalTells : Known Tryd.prog := known mixedOk [k_interval_Contains, k_simulatorref49_Contains, k_interval_Above, k_simulatorref49_Above, k_interval_Enough, k_simulatorref49_Enough, k_simulatorlaw49_awake] (by decide) [] plTypes plOk inFuncs insOk 6 ⟨4, [(.g [(.ck (.int .i64)), (.ck (.int .i64)), (.ck (.int .i64)), (.ck (.int .i64))]), (.g [(.ck (.int .i64)), (.ck (.int .i64)), (.ck (.int .i64)), (.ck (.int .i64))]), (.g [(.ck (.int .i64)), (.ck (.int .i64)), (.ck (.int .i64)), (.ck (.int .i64))])], (.c (.a (.ck .bool)))⟩ (fun args w => Tryd.call4 args w) tk_simulatorlaw49_IntervalTells (by kernel_rfl)
theorem k_simulatorlaw49_IntervalTells_f : k_simulatorlaw49_IntervalTells.con.f = 4 := rfl
theorem k_simulatorlaw49_IntervalTells_F (l : List Sc) : k_simulatorlaw49_IntervalTells.F l = if l.length = 12 then tk_simulatorlaw49_IntervalTells.den (gam (P := Tryd.prog) [k_interval_Contains, k_simulatorref49_Contains, k_interval_Above, k_simulatorref49_Above, k_interval_Enough, k_simulatorref49_Enough, k_simulatorlaw49_awake]) l [] else none := rfl
def tk_simulatorlaw49_IntervalLeast : T (List Ex) :=
 (.loop [.nil, (.i 0), (.i 0), (.i 0)]
 (.ite (.o .lt (.v 4) (.u .len (.v 0)))
 (.need (.o .le (.i 0) (.v 4)) (.need (.o .lt (.v 4) (.u .len (.v 0))) (.ite (.o .lt (.i 50) (.u .len (.v 0)))
 (.call 8 [] 1
 (.leaf [(.v 5)]))
 (.ite (.o .lt (.o .idx (.v 0) (.v 4)) (.i (-1000)))
 (.call 8 [] 1
 (.leaf [(.v 5)]))
 (.ite (.o .lt (.i 1000) (.o .idx (.v 0) (.v 4)))
 (.call 8 [] 1
 (.leaf [(.v 5)]))
 (.call 19 [(.o .idx (.v 0) (.v 4)), (.i 1)] 2
 (.need (.o .le (.u .len (.o .snoc (.v 1) (.o .cons (.v 5) (.o .cons (.v 6) .nil)))) (.i 8796093022208)) (.next 0 [(.o .snoc (.v 1) (.o .cons (.v 5) (.o .cons (.v 6) .nil))), (.o (.add .i64) (.v 2) (.o .idx (.v 0) (.v 4))), (.o (.add .i64) (.v 3) (.o (.mul .i64) (.o .idx (.v 0) (.v 4)) (.o .idx (.v 0) (.v 4)))), (.o (.add .i64) (.v 4) (.i 1))]))))))))
 (.call 9 [(.v 1)] 5
 (.ite (.o .lt (.u .len (.v 0)) (.i 2))
 (.ite (.o .eq (.v 9) (.i 7))
 (.call 8 [] 1
 (.leaf [(.v 10)]))
 (.leaf [(.b false)]))
 (.ite (.o .ne (.v 9) (.i 0))
 (.leaf [(.b false)])
 (.ite (.o .lt (.v 8) (.i 1))
 (.leaf [(.b false)])
 (.need (.o .ne (.v 8) (.i 0)) (.ite (.o .ne (.o (.rem .i64) (.i 1000) (.v 8)) (.i 0))
 (.leaf [(.b false)])
 (.ite (.o .lt (.v 7) (.i 0))
 (.leaf [(.b false)])
 (.ite (.o .lt (.i 1000000000) (.v 7))
 (.leaf [(.b false)])
 (.need (.o .ne (.v 8) (.i 0)) (.call 11 [(.o (.sub .i64) (.u .len (.v 0)) (.i 1))] 2
 (.call 20 [(.v 2), (.u .len (.v 0))] 3
 (.call 21 [(.o (.mul .u64) (.u (.conv .u64) (.o (.mul .i64) (.v 7) (.o (.quo .i64) (.i 1000) (.v 8)))) (.u (.conv .u64) (.o (.mul .i64) (.v 7) (.o (.quo .i64) (.i 1000) (.v 8))))), (.u (.conv .u64) (.o (.mul .i64) (.o (.mul .i64) (.u .len (.v 0)) (.u .len (.v 0))) (.o (.sub .i64) (.u .len (.v 0)) (.i 1))))] 2
 (.call 21 [(.u (.conv .u64) (.o (.mul .i64) (.v 10) (.v 10))), (.u (.conv .u64) (.o (.sub .i64) (.o (.mul .i64) (.u .len (.v 0)) (.v 3)) (.o (.mul .i64) (.v 2) (.v 2))))] 2
 (.ite (.u .not (.o .and (.o .eq (.v 5) (.v 12)) (.o .and (.o .eq (.v 6) (.v 13)) (.b true))))
 (.leaf [(.b false)])
 (.ite (.o .lt (.i 200000000) (.o (.mul .i64) (.v 7) (.o (.quo .i64) (.i 1000) (.v 8))))
 (.leaf [(.b false)])
 (.call 22 [(.v 15), (.v 16), (.v 17), (.v 18)] 1
 (.ite (.v 19)
 (.leaf [(.b false)])
 (.ite (.o .lt (.i 0) (.o (.mul .i64) (.v 7) (.o (.quo .i64) (.i 1000) (.v 8))))
 (.call 21 [(.o (.mul .u64) (.u (.conv .u64) (.o (.sub .i64) (.o (.mul .i64) (.v 7) (.o (.quo .i64) (.i 1000) (.v 8))) (.i 1))) (.u (.conv .u64) (.o (.sub .i64) (.o (.mul .i64) (.v 7) (.o (.quo .i64) (.i 1000) (.v 8))) (.i 1)))), (.u (.conv .u64) (.o (.mul .i64) (.o (.mul .i64) (.u .len (.v 0)) (.u .len (.v 0))) (.o (.sub .i64) (.u .len (.v 0)) (.i 1))))] 2
 (.ite (.o .beq (.o .eq (.o (.mul .i64) (.v 7) (.o (.quo .i64) (.i 1000) (.v 8))) (.i 0)) (.o .eq (.o (.mul .i64) (.u .len (.v 0)) (.v 3)) (.o (.mul .i64) (.v 2) (.v 2))))
 (.ite (.o .eq (.o (.mul .i64) (.v 7) (.o (.quo .i64) (.i 1000) (.v 8))) (.i 0))
 (.call 8 [] 1
 (.leaf [(.v 22)]))
 (.call 22 [(.v 20), (.v 21), (.v 17), (.v 18)] 1
 (.ite (.v 22)
 (.call 8 [] 1
 (.leaf [(.v 23)]))
 (.leaf [(.b false)]))))
 (.leaf [(.b false)])))
 (.ite (.o .beq (.o .eq (.o (.mul .i64) (.v 7) (.o (.quo .i64) (.i 1000) (.v 8))) (.i 0)) (.o .eq (.o (.mul .i64) (.u .len (.v 0)) (.v 3)) (.o (.mul .i64) (.v 2) (.v 2))))
 (.ite (.o .eq (.o (.mul .i64) (.v 7) (.o (.quo .i64) (.i 1000) (.v 8))) (.i 0))
 (.call 8 [] 1
 (.leaf [(.v 20)]))
 (.call 22 [(.i 0), (.i 0), (.v 17), (.v 18)] 1
 (.ite (.v 20)
 (.call 8 [] 1
 (.leaf [(.v 21)]))
 (.leaf [(.b false)]))))
 (.leaf [(.b false)]))))))))))))))))))))))
noncomputable def k_simulatorlaw49_IntervalLeast : Known Tryd.prog := known mixedOk [k_simulatorlaw49_awake, k_simulatorlaw49_of, k_interval_Of, k_interval_Quantile, k_simulatorref02_Of, k_simulatorref02_Times, k_simulatorref02_Less] (by decide) [⟨500004, [(3, 25), (4, 0), (5, 0), (22, 0)], [23, 24, 25, 7, 26, 27, 28, 29, 30, 31, 32, 33, 34, 35, 36, 37, 2, 38, 39, 40, 41, 42, 43, 44, 45, 46, 47, 48, 49, 50, 51], [], []⟩] plTypes plOk inFuncs insOk 6 ⟨5, [(.a (.row 3 [(.int .i64)] false))], (.c (.a (.ck .bool)))⟩ (fun args w => Tryd.call5 args w) tk_simulatorlaw49_IntervalLeast (by kernel_rfl)
theorem k_simulatorlaw49_IntervalLeast_f : k_simulatorlaw49_IntervalLeast.con.f = 5 := rfl
theorem k_simulatorlaw49_IntervalLeast_F (l : List Sc) : k_simulatorlaw49_IntervalLeast.F l = if l.length = 1 then tk_simulatorlaw49_IntervalLeast.den (gam (P := Tryd.prog) [k_simulatorlaw49_awake, k_simulatorlaw49_of, k_interval_Of, k_interval_Quantile, k_simulatorref02_Of, k_simulatorref02_Times, k_simulatorref02_Less]) l [] else none := rfl
def tk_simulatorlaw49_IntervalMoves : T (List Ex) :=
 (.ite (.o .lt (.i 50) (.u .len (.v 0)))
 (.call 8 [] 1
 (.leaf [(.v 2)]))
 (.loop [.nil, .nil, (.b true), (.i 0)]
 (.ite (.o .lt (.v 5) (.u .len (.v 0)))
 (.need (.o .le (.i 0) (.v 5)) (.need (.o .lt (.v 5) (.u .len (.v 0))) (.need (.o .le (.u .len (.o .app (.o .cons (.o .cons (.u (.cell 0) (.o .idx (.v 0) (.v 5))) (.o .cons (.u (.cell 1) (.o .idx (.v 0) (.v 5))) .nil)) .nil) (.v 2))) (.i 8796093022208)) (.need (.o .le (.i 0) (.v 5)) (.need (.o .lt (.v 5) (.u .len (.v 0))) (.call 19 [(.v 1), (.i 1)] 2
 (.call 23 [(.u (.cell 0) (.o .idx (.v 0) (.v 5))), (.u (.cell 1) (.o .idx (.v 0) (.v 5))), (.v 6), (.v 7)] 3
 (.need (.o .le (.u .len (.o .snoc (.v 3) (.o .cons (.v 8) (.o .cons (.v 9) .nil)))) (.i 8796093022208)) (.ite (.v 4)
 (.next 0 [(.o .app (.o .cons (.o .cons (.u (.cell 0) (.o .idx (.v 0) (.v 5))) (.o .cons (.u (.cell 1) (.o .idx (.v 0) (.v 5))) .nil)) .nil) (.v 2)), (.o .snoc (.v 3) (.o .cons (.v 8) (.o .cons (.v 9) .nil))), (.v 10), (.o (.add .i64) (.v 5) (.i 1))])
 (.next 0 [(.o .app (.o .cons (.o .cons (.u (.cell 0) (.o .idx (.v 0) (.v 5))) (.o .cons (.u (.cell 1) (.o .idx (.v 0) (.v 5))) .nil)) .nil) (.v 2)), (.o .snoc (.v 3) (.o .cons (.v 8) (.o .cons (.v 9) .nil))), (.b false), (.o (.add .i64) (.v 5) (.i 1))]))))))))))
 (.call 9 [(.v 0)] 5
 (.call 9 [(.v 2)] 5
 (.call 9 [(.v 3)] 5
 (.ite (.o .eq (.v 10) (.i 0))
 (.ite (.o .eq (.v 15) (.i 0))
 (.ite (.u .not (.o .and (.o .and (.o .eq (.v 6) (.v 11)) (.o .and (.o .eq (.v 7) (.v 12)) (.b true))) (.o .and (.o .and (.o .eq (.v 8) (.v 13)) (.o .and (.o .eq (.v 9) (.v 14)) (.b true))) (.b true))))
 (.leaf [(.b false)])
 (.call 19 [(.v 1), (.i 1)] 2
 (.call 23 [(.v 6), (.v 7), (.v 21), (.v 22)] 3
 (.ite (.o .ne (.v 10) (.i 0))
 (.call 8 [] 1
 (.leaf [(.v 26)]))
 (.ite (.u .not (.v 4))
 (.call 8 [] 1
 (.leaf [(.v 26)]))
 (.ite (.o .ne (.v 20) (.i 0))
 (.call 8 [] 1
 (.leaf [(.v 26)]))
 (.ite (.v 25)
 (.ite (.o .and (.o .eq (.v 16) (.v 23)) (.o .and (.o .eq (.v 17) (.v 24)) (.b true)))
 (.ite (.o .and (.o .eq (.v 18) (.v 8)) (.o .and (.o .eq (.v 19) (.v 9)) (.b true)))
 (.call 8 [] 1
 (.leaf [(.v 26)]))
 (.leaf [(.b false)]))
 (.leaf [(.b false)]))
 (.leaf [(.b false)]))))))))
 (.call 19 [(.v 1), (.i 1)] 2
 (.call 23 [(.v 6), (.v 7), (.v 21), (.v 22)] 3
 (.ite (.o .ne (.v 10) (.i 0))
 (.call 8 [] 1
 (.leaf [(.v 26)]))
 (.ite (.u .not (.v 4))
 (.call 8 [] 1
 (.leaf [(.v 26)]))
 (.ite (.o .ne (.v 20) (.i 0))
 (.call 8 [] 1
 (.leaf [(.v 26)]))
 (.ite (.v 25)
 (.ite (.o .and (.o .eq (.v 16) (.v 23)) (.o .and (.o .eq (.v 17) (.v 24)) (.b true)))
 (.ite (.o .and (.o .eq (.v 18) (.v 8)) (.o .and (.o .eq (.v 19) (.v 9)) (.b true)))
 (.call 8 [] 1
 (.leaf [(.v 26)]))
 (.leaf [(.b false)]))
 (.leaf [(.b false)]))
 (.leaf [(.b false)]))))))))
 (.call 19 [(.v 1), (.i 1)] 2
 (.call 23 [(.v 6), (.v 7), (.v 21), (.v 22)] 3
 (.ite (.o .ne (.v 10) (.i 0))
 (.call 8 [] 1
 (.leaf [(.v 26)]))
 (.ite (.u .not (.v 4))
 (.call 8 [] 1
 (.leaf [(.v 26)]))
 (.ite (.o .ne (.v 20) (.i 0))
 (.call 8 [] 1
 (.leaf [(.v 26)]))
 (.ite (.v 25)
 (.ite (.o .and (.o .eq (.v 16) (.v 23)) (.o .and (.o .eq (.v 17) (.v 24)) (.b true)))
 (.ite (.o .and (.o .eq (.v 18) (.v 8)) (.o .and (.o .eq (.v 19) (.v 9)) (.b true)))
 (.call 8 [] 1
 (.leaf [(.v 26)]))
 (.leaf [(.b false)]))
 (.leaf [(.b false)]))
 (.leaf [(.b false)]))))))))))))))
noncomputable def k_simulatorlaw49_IntervalMoves : Known Tryd.prog := known mixedOk [k_simulatorlaw49_awake, k_simulatorlaw49_of, k_frac_Add, k_interval_Of] (by decide) [⟨600006, [(5, 25), (6, 25), (7, 0), (8, 0)], [23, 24, 25, 26, 29, 30, 31, 32, 33, 34, 35, 37, 38, 39, 40, 41, 42, 43, 36, 44, 45, 9, 10, 46, 47, 48, 49, 50, 51, 52, 53, 27, 28], [], []⟩] plTypes plOk inFuncs insOk 6 ⟨6, [(.a (.row 25 [(.int .i64), (.int .i64)] true)), (.a (.ck (.int .i64)))], (.c (.a (.ck .bool)))⟩ (fun args w => Tryd.call6 args w) tk_simulatorlaw49_IntervalMoves (by kernel_rfl)
theorem k_simulatorlaw49_IntervalMoves_f : k_simulatorlaw49_IntervalMoves.con.f = 6 := rfl
theorem k_simulatorlaw49_IntervalMoves_F (l : List Sc) : k_simulatorlaw49_IntervalMoves.F l = if l.length = 2 then tk_simulatorlaw49_IntervalMoves.den (gam (P := Tryd.prog) [k_simulatorlaw49_awake, k_simulatorlaw49_of, k_frac_Add, k_interval_Of]) l [] else none := rfl
def tk_simulatorlaw49_IntervalApart : T (List Ex) :=
 (.ite (.o .lt (.i 50) (.u .len (.v 0)))
 (.call 8 [] 1
 (.leaf [(.v 4)]))
 (.ite (.o .lt (.i 50) (.u .len (.v 1)))
 (.call 8 [] 1
 (.leaf [(.v 4)]))
 (.call 9 [(.v 0)] 5
 (.call 9 [(.v 1)] 5
 (.ite (.o .ne (.v 8) (.i 0))
 (.call 8 [] 1
 (.leaf [(.v 14)]))
 (.ite (.o .ne (.v 13) (.i 0))
 (.call 8 [] 1
 (.leaf [(.v 14)]))
 (.call 24 [(.v 0)] 3
 (.ite (.u .not (.v 16))
 (.leaf [(.b false)])
 (.ite (.u .not (.o .and (.o .eq (.v 4) (.v 14)) (.o .and (.o .eq (.v 5) (.v 15)) (.b true))))
 (.leaf [(.b false)])
 (.call 13 [(.v 4), (.v 5), (.v 6), (.v 7), (.v 4), (.v 5)] 1
 (.ite (.u .not (.v 17))
 (.leaf [(.b false)])
 (.call 13 [(.v 9), (.v 10), (.v 11), (.v 12), (.v 9), (.v 10)] 1
 (.ite (.u .not (.v 18))
 (.leaf [(.b false)])
 (.call 15 [(.v 4), (.v 5), (.v 6), (.v 7), (.v 9), (.v 10), (.v 11), (.v 12)] 1
 (.ite (.u .not (.v 19))
 (.call 8 [] 1
 (.leaf [(.v 20)]))
 (.call 15 [(.v 9), (.v 10), (.v 11), (.v 12), (.v 4), (.v 5), (.v 6), (.v 7)] 1
 (.ite (.u .not (.v 20))
 (.call 13 [(.v 4), (.v 5), (.v 6), (.v 7), (.v 2), (.v 3)] 1
 (.ite (.v 21)
 (.call 13 [(.v 9), (.v 10), (.v 11), (.v 12), (.v 2), (.v 3)] 1
 (.ite (.u .not (.v 22))
 (.call 8 [] 1
 (.leaf [(.v 23)]))
 (.leaf [(.b false)])))
 (.call 8 [] 1
 (.leaf [(.v 22)]))))
 (.leaf [(.b false)]))))))))))))))))))
noncomputable def k_simulatorlaw49_IntervalApart : Known Tryd.prog := known mixedOk [k_simulatorlaw49_awake, k_interval_Of, k_batch_Mean, k_interval_Contains, k_interval_Above] (by decide) [] plTypes plOk inFuncs insOk 6 ⟨7, [(.a (.row 25 [(.int .i64), (.int .i64)] true)), (.a (.row 25 [(.int .i64), (.int .i64)] true)), (.g [(.ck (.int .i64)), (.ck (.int .i64))])], (.c (.a (.ck .bool)))⟩ (fun args w => Tryd.call7 args w) tk_simulatorlaw49_IntervalApart (by kernel_rfl)
theorem k_simulatorlaw49_IntervalApart_f : k_simulatorlaw49_IntervalApart.con.f = 7 := rfl
theorem k_simulatorlaw49_IntervalApart_F (l : List Sc) : k_simulatorlaw49_IntervalApart.F l = if l.length = 4 then tk_simulatorlaw49_IntervalApart.den (gam (P := Tryd.prog) [k_simulatorlaw49_awake, k_interval_Of, k_batch_Mean, k_interval_Contains, k_interval_Above]) l [] else none := rfl
end Go.Proofs.YtchnhfnnlkncdaaDoor
