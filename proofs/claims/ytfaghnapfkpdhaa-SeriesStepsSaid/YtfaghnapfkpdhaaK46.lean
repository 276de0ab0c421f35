/-
  What the functions of this seat reckon: their trees, checked by the kernel. Printed by a program of mine.
-/
import Derived.Test.YtfaghnapfkpdhaaProg
import Derived.KernelRfl
import Derived.Test.YtfaghnapfkpdhaaSymX
import Derived.Test.YtfaghnapfkpdhaaExt
namespace Go.Proofs.Ytfaghnapfkpdhaa
open Go.RowKit
def plTypes : List Nat := [7, 8, 27, 28, 44, 45, 48, 49, 56, 57, 65, 66, 67, 68, 73, 74, 114, 115]
theorem plOk : PlainTy Try.prog plTypes := by
  intro t ht
  have := hasN_mem.1 ht
  simp only [plTypes, List.mem_cons, List.not_mem_nil, or_false] at this
  rcases this with rfl | rfl | rfl | rfl | rfl | rfl | rfl | rfl | rfl | rfl | rfl | rfl | rfl | rfl | rfl | rfl | rfl | rfl
  · exact ⟨Try.stoodInHeld7, Try.eqGuardType7⟩
  · exact ⟨Try.stoodInHeld8, Try.eqGuardType8⟩
  · exact ⟨Try.stoodInHeld27, Try.eqGuardType27⟩
  · exact ⟨Try.stoodInHeld28, Try.eqGuardType28⟩
  · exact ⟨Try.stoodInHeld44, Try.eqGuardType44⟩
  · exact ⟨Try.stoodInHeld45, Try.eqGuardType45⟩
  · exact ⟨Try.stoodInHeld48, Try.eqGuardType48⟩
  · exact ⟨Try.stoodInHeld49, Try.eqGuardType49⟩
  · exact ⟨Try.stoodInHeld56, Try.eqGuardType56⟩
  · exact ⟨Try.stoodInHeld57, Try.eqGuardType57⟩
  · exact ⟨Try.stoodInHeld65, Try.eqGuardType65⟩
  · exact ⟨Try.stoodInHeld66, Try.eqGuardType66⟩
  · exact ⟨Try.stoodInHeld67, Try.eqGuardType67⟩
  · exact ⟨Try.stoodInHeld68, Try.eqGuardType68⟩
  · exact ⟨Try.stoodInHeld73, Try.eqGuardType73⟩
  · exact ⟨Try.stoodInHeld74, Try.eqGuardType74⟩
  · exact ⟨Try.stoodInHeld114, Try.eqGuardType114⟩
  · exact ⟨Try.stoodInHeld115, Try.eqGuardType115⟩
def inFuncs : List Nat := []
theorem insOk : ∀ f, hasN inFuncs f = true → ∀ args w, (callFunc f args).run Try.prog w = .ok (.enter f args) w := by
  intro f hf
  have := hasN_mem.1 hf
  simp [inFuncs] at this
theorem mixedOk : Try.prog.follows .mixedOrders = true := by kernel_rfl
noncomputable def k_bits_Add64 : Known Try.prog := ⟨carryCon 58, add64F, add64_holds Try.func58 (by kernel_rfl) (by kernel_rfl) (by kernel_rfl) (by kernel_rfl)⟩
theorem k_bits_Add64_f : k_bits_Add64.con.f = 58 := rfl
theorem k_bits_Add64_F (l : List Sc) : k_bits_Add64.F l = add64F l := rfl
noncomputable def k_bits_Sub64 : Known Try.prog := ⟨carryCon 59, sub64F, sub64_holds Try.func59 (by kernel_rfl) (by kernel_rfl) (by kernel_rfl) (by kernel_rfl)⟩
theorem k_bits_Sub64_f : k_bits_Sub64.con.f = 59 := rfl
theorem k_bits_Sub64_F (l : List Sc) : k_bits_Sub64.F l = sub64F l := rfl
def tk_series_Of : T (List Ex) :=
 (.loop [.nil, (.i 0)]
 (.ite (.o .lt (.v 4) (.u .len (.v 0)))
 (.need (.o .le (.i 0) (.v 4)) (.need (.o .lt (.v 4) (.u .len (.v 0))) (.ite (.o .eq (.u (.cell 2) (.o .idx (.v 0) (.v 4))) (.i 14))
 (.ite (.o .eq (.u (.cell 1) (.o .idx (.v 0) (.v 4))) (.v 1))
 (.ite (.o .eq (.u (.cell 4) (.o .idx (.v 0) (.v 4))) (.v 2))
 (.need (.o .le (.u .len (.o .snoc (.v 3) (.o .cons (.u (.cell 0) (.o .idx (.v 0) (.v 4))) (.o .cons (.u (.cell 5) (.o .idx (.v 0) (.v 4))) .nil)))) (.i 8796093022208)) (.next 0 [(.o .snoc (.v 3) (.o .cons (.u (.cell 0) (.o .idx (.v 0) (.v 4))) (.o .cons (.u (.cell 5) (.o .idx (.v 0) (.v 4))) .nil))), (.o (.add .i64) (.v 4) (.i 1))]))
 (.next 0 [(.v 3), (.o (.add .i64) (.v 4) (.i 1))]))
 (.next 0 [(.v 3), (.o (.add .i64) (.v 4) (.i 1))]))
 (.next 0 [(.v 3), (.o (.add .i64) (.v 4) (.i 1))]))))
 (.leaf [(.v 3)])))
noncomputable def k_series_Of : Known Try.prog := known mixedOk [] (by decide) [⟨900003, [(7, 45), (12, 0)], [13, 14, 15, 9, 16, 17, 18, 19, 20, 21, 22, 23, 24, 25, 26, 27, 28, 29, 30, 31, 32, 33, 34, 35, 36, 37, 38, 39], [], []⟩] plTypes plOk inFuncs insOk 6 ⟨9, [(.a (.row 57 [(.int .i64), (.int .i64), (.int .i64), (.int .i64), (.int .i64), (.int .i64)] true)), (.a (.ck (.int .i64))), (.a (.ck (.int .i64)))], (.c (.a (.row 45 [(.int .i64), (.int .i64)] true)))⟩ (fun args w => Try.call9 args w) tk_series_Of (by kernel_rfl)
theorem k_series_Of_f : k_series_Of.con.f = 9 := rfl
theorem k_series_Of_F (l : List Sc) : k_series_Of.F l = if l.length = 3 then tk_series_Of.den (gam (P := Try.prog) []) l [] else none := rfl
def tk_simulatorref46_Of : T (List Ex) :=
 (.loop [.nil, (.i 0)]
 (.ite (.o .lt (.v 4) (.u .len (.v 0)))
 (.need (.o .le (.i 0) (.v 4)) (.need (.o .lt (.v 4) (.u .len (.v 0))) (.ite (.o .eq (.u (.cell 2) (.o .idx (.v 0) (.v 4))) (.i 14))
 (.need (.o .le (.i 0) (.v 4)) (.need (.o .lt (.v 4) (.u .len (.v 0))) (.ite (.o .eq (.u (.cell 1) (.o .idx (.v 0) (.v 4))) (.v 1))
 (.need (.o .le (.i 0) (.v 4)) (.need (.o .lt (.v 4) (.u .len (.v 0))) (.ite (.o .eq (.u (.cell 4) (.o .idx (.v 0) (.v 4))) (.v 2))
 (.need (.o .le (.i 0) (.v 4)) (.need (.o .lt (.v 4) (.u .len (.v 0))) (.need (.o .le (.i 0) (.v 4)) (.need (.o .lt (.v 4) (.u .len (.v 0))) (.need (.o .le (.u .len (.o .snoc (.v 3) (.o .cons (.u (.cell 0) (.o .idx (.v 0) (.v 4))) (.o .cons (.u (.cell 5) (.o .idx (.v 0) (.v 4))) .nil)))) (.i 8796093022208)) (.next 0 [(.o .snoc (.v 3) (.o .cons (.u (.cell 0) (.o .idx (.v 0) (.v 4))) (.o .cons (.u (.cell 5) (.o .idx (.v 0) (.v 4))) .nil))), (.o (.add .i64) (.v 4) (.i 1))]))))))
 (.next 0 [(.v 3), (.o (.add .i64) (.v 4) (.i 1))]))))
 (.next 0 [(.v 3), (.o (.add .i64) (.v 4) (.i 1))]))))
 (.next 0 [(.v 3), (.o (.add .i64) (.v 4) (.i 1))]))))
 (.leaf [(.v 3)])))
noncomputable def k_simulatorref46_Of : Known Try.prog := known mixedOk [] (by decide) [⟨1000003, [(7, 45), (8, 0)], [9, 10, 11, 12, 15, 16, 17, 18, 19, 20, 21, 22, 23, 24, 25, 26, 27, 28, 29, 30, 31, 32, 33, 34, 35, 36, 37, 38, 39, 40, 41, 42, 43, 44, 45, 46, 47, 48, 49, 50, 51, 52, 13, 14], [], []⟩] plTypes plOk inFuncs insOk 6 ⟨10, [(.a (.row 57 [(.int .i64), (.int .i64), (.int .i64), (.int .i64), (.int .i64), (.int .i64)] true)), (.a (.ck (.int .i64))), (.a (.ck (.int .i64)))], (.c (.a (.row 45 [(.int .i64), (.int .i64)] true)))⟩ (fun args w => Try.call10 args w) tk_simulatorref46_Of (by kernel_rfl)
theorem k_simulatorref46_Of_f : k_simulatorref46_Of.con.f = 10 := rfl
theorem k_simulatorref46_Of_F (l : List Sc) : k_simulatorref46_Of.F l = if l.length = 3 then tk_simulatorref46_Of.den (gam (P := Try.prog) []) l [] else none := rfl
def tk_simulatorref46_Same : T (List Ex) :=
 (.ite (.o .ne (.u .len (.v 0)) (.u .len (.v 1)))
 (.leaf [(.b false)])
 (.loop [(.i 0)]
 (.ite (.o .lt (.v 2) (.u .len (.v 0)))
 (.need (.o .le (.i 0) (.v 2)) (.need (.o .lt (.v 2) (.u .len (.v 0))) (.need (.o .le (.i 0) (.v 2)) (.need (.o .lt (.v 2) (.u .len (.v 1))) (.ite (.u .not (.o .and (.o .eq (.u (.cell 0) (.o .idx (.v 0) (.v 2))) (.u (.cell 0) (.o .idx (.v 1) (.v 2)))) (.o .and (.o .eq (.u (.cell 1) (.o .idx (.v 0) (.v 2))) (.u (.cell 1) (.o .idx (.v 1) (.v 2)))) (.b true))))
 (.leaf [(.b false)])
 (.next 0 [(.o (.add .i64) (.v 2) (.i 1))]))))))
 (.leaf [(.b true)]))))
noncomputable def k_simulatorref46_Same : Known Try.prog := known mixedOk [] (by decide) [⟨1300004, [(5, 0)], [11, 12, 13, 14, 17, 18, 19, 20, 21, 22, 23, 24, 25, 4, 15, 16], [], []⟩] plTypes plOk inFuncs insOk 6 ⟨13, [(.a (.row 45 [(.int .i64), (.int .i64)] true)), (.a (.row 45 [(.int .i64), (.int .i64)] true))], (.c (.a (.ck .bool)))⟩ (fun args w => Try.call13 args w) tk_simulatorref46_Same (by kernel_rfl)
theorem k_simulatorref46_Same_f : k_simulatorref46_Same.con.f = 13 := rfl
theorem k_simulatorref46_Same_F (l : List Sc) : k_simulatorref46_Same.F l = if l.length = 2 then tk_simulatorref46_Same.den (gam (P := Try.prog) []) l [] else none := rfl
def tk_simulatorlaw46_ints : T (List Ex) :=
 (.ite (.o .ne (.u .len (.v 0)) (.u .len (.v 1)))
 (.leaf [(.b false)])
 (.loop [(.i 0)]
 (.ite (.o .lt (.v 2) (.u .len (.v 0)))
 (.need (.o .le (.i 0) (.v 2)) (.need (.o .lt (.v 2) (.u .len (.v 0))) (.need (.o .le (.i 0) (.v 2)) (.need (.o .lt (.v 2) (.u .len (.v 1))) (.ite (.o .ne (.o .idx (.v 0) (.v 2)) (.o .idx (.v 1) (.v 2)))
 (.leaf [(.b false)])
 (.next 0 [(.o (.add .i64) (.v 2) (.i 1))]))))))
 (.leaf [(.b true)]))))
noncomputable def k_simulatorlaw46_ints : Known Try.prog := known mixedOk [] (by decide) [⟨1400004, [(5, 0)], [11, 12, 13, 14, 17, 18, 19, 20, 21, 22, 23, 24, 25, 4, 15, 16], [], []⟩] plTypes plOk inFuncs insOk 6 ⟨14, [(.a (.row 3 [(.int .i64)] false)), (.a (.row 3 [(.int .i64)] false))], (.c (.a (.ck .bool)))⟩ (fun args w => Try.call14 args w) tk_simulatorlaw46_ints (by kernel_rfl)
theorem k_simulatorlaw46_ints_f : k_simulatorlaw46_ints.con.f = 14 := rfl
theorem k_simulatorlaw46_ints_F (l : List Sc) : k_simulatorlaw46_ints.F l = if l.length = 2 then tk_simulatorlaw46_ints.den (gam (P := Try.prog) []) l [] else none := rfl
def tk_series_Values : T (List Ex) :=
 (.loop [.nil, (.i 0)]
 (.ite (.o .lt (.v 2) (.u .len (.v 0)))
 (.need (.o .le (.i 0) (.v 2)) (.need (.o .lt (.v 2) (.u .len (.v 0))) (.need (.o .le (.u .len (.o .snoc (.v 1) (.u (.cell 1) (.o .idx (.v 0) (.v 2))))) (.i 17592186044416)) (.next 0 [(.o .snoc (.v 1) (.u (.cell 1) (.o .idx (.v 0) (.v 2)))), (.o (.add .i64) (.v 2) (.i 1))]))))
 (.leaf [(.v 1)])))
noncomputable def k_series_Values : Known Try.prog := known mixedOk [] (by decide) [⟨1500003, [(3, 3), (8, 0)], [9, 10, 11, 5, 12, 13, 14, 15, 16, 17], [], []⟩] plTypes plOk inFuncs insOk 6 ⟨15, [(.a (.row 45 [(.int .i64), (.int .i64)] true))], (.c (.a (.row 3 [(.int .i64)] false)))⟩ (fun args w => Try.call15 args w) tk_series_Values (by kernel_rfl)
theorem k_series_Values_f : k_series_Values.con.f = 15 := rfl
theorem k_series_Values_F (l : List Sc) : k_series_Values.F l = if l.length = 1 then tk_series_Values.den (gam (P := Try.prog) []) l [] else none := rfl
def tk_simulatorref46_Values : T (List Ex) :=
 (.loop [.nil, (.i 0)]
 (.ite (.o .lt (.v 2) (.u .len (.v 0)))
 (.need (.o .le (.i 0) (.v 2)) (.need (.o .lt (.v 2) (.u .len (.v 0))) (.need (.o .le (.u .len (.o .snoc (.v 1) (.u (.cell 1) (.o .idx (.v 0) (.v 2))))) (.i 17592186044416)) (.next 0 [(.o .snoc (.v 1) (.u (.cell 1) (.o .idx (.v 0) (.v 2)))), (.o (.add .i64) (.v 2) (.i 1))]))))
 (.leaf [(.v 1)])))
noncomputable def k_simulatorref46_Values : Known Try.prog := known mixedOk [] (by decide) [⟨1600003, [(3, 3), (4, 0)], [5, 6, 7, 8, 11, 12, 13, 14, 15, 16, 17, 18, 9, 10], [], []⟩] plTypes plOk inFuncs insOk 6 ⟨16, [(.a (.row 45 [(.int .i64), (.int .i64)] true))], (.c (.a (.row 3 [(.int .i64)] false)))⟩ (fun args w => Try.call16 args w) tk_simulatorref46_Values (by kernel_rfl)
theorem k_simulatorref46_Values_f : k_simulatorref46_Values.con.f = 16 := rfl
theorem k_simulatorref46_Values_F (l : List Sc) : k_simulatorref46_Values.F l = if l.length = 1 then tk_simulatorref46_Values.den (gam (P := Try.prog) []) l [] else none := rfl
def tk_series_Window : T (List Ex) :=
 (.loop [.nil, (.i 0)]
 (.ite (.o .lt (.v 4) (.u .len (.v 0)))
 (.need (.o .le (.i 0) (.v 4)) (.need (.o .lt (.v 4) (.u .len (.v 0))) (.ite (.o .le (.v 1) (.u (.cell 0) (.o .idx (.v 0) (.v 4))))
 (.ite (.o .lt (.u (.cell 0) (.o .idx (.v 0) (.v 4))) (.v 2))
 (.need (.o .le (.u .len (.o .snoc (.v 3) (.o .cons (.u (.cell 0) (.o .idx (.v 0) (.v 4))) (.o .cons (.u (.cell 1) (.o .idx (.v 0) (.v 4))) .nil)))) (.i 8796093022208)) (.next 0 [(.o .snoc (.v 3) (.o .cons (.u (.cell 0) (.o .idx (.v 0) (.v 4))) (.o .cons (.u (.cell 1) (.o .idx (.v 0) (.v 4))) .nil))), (.o (.add .i64) (.v 4) (.i 1))]))
 (.next 0 [(.v 3), (.o (.add .i64) (.v 4) (.i 1))]))
 (.next 0 [(.v 3), (.o (.add .i64) (.v 4) (.i 1))]))))
 (.leaf [(.v 3)])))
noncomputable def k_series_Window : Known Try.prog := known mixedOk [] (by decide) [⟨1700003, [(7, 45), (12, 0)], [13, 14, 15, 9, 16, 17, 18, 19, 20, 21, 22, 23, 24, 25, 26, 27, 28, 29, 30], [], []⟩] plTypes plOk inFuncs insOk 6 ⟨17, [(.a (.row 45 [(.int .i64), (.int .i64)] true)), (.a (.ck (.int .i64))), (.a (.ck (.int .i64)))], (.c (.a (.row 45 [(.int .i64), (.int .i64)] true)))⟩ (fun args w => Try.call17 args w) tk_series_Window (by kernel_rfl)
theorem k_series_Window_f : k_series_Window.con.f = 17 := rfl
theorem k_series_Window_F (l : List Sc) : k_series_Window.F l = if l.length = 3 then tk_series_Window.den (gam (P := Try.prog) []) l [] else none := rfl
def tk_simulatorref46_Window : T (List Ex) :=
 (.loop [.nil, (.i 0)]
 (.ite (.o .lt (.v 4) (.u .len (.v 0)))
 (.need (.o .le (.i 0) (.v 4)) (.need (.o .lt (.v 4) (.u .len (.v 0))) (.ite (.o .le (.v 1) (.u (.cell 0) (.o .idx (.v 0) (.v 4))))
 (.need (.o .le (.i 0) (.v 4)) (.need (.o .lt (.v 4) (.u .len (.v 0))) (.ite (.o .lt (.u (.cell 0) (.o .idx (.v 0) (.v 4))) (.v 2))
 (.need (.o .le (.i 0) (.v 4)) (.need (.o .lt (.v 4) (.u .len (.v 0))) (.need (.o .le (.u .len (.o .snoc (.v 3) (.o .cons (.u (.cell 0) (.o .idx (.v 0) (.v 4))) (.o .cons (.u (.cell 1) (.o .idx (.v 0) (.v 4))) .nil)))) (.i 8796093022208)) (.next 0 [(.o .snoc (.v 3) (.o .cons (.u (.cell 0) (.o .idx (.v 0) (.v 4))) (.o .cons (.u (.cell 1) (.o .idx (.v 0) (.v 4))) .nil))), (.o (.add .i64) (.v 4) (.i 1))]))))
 (.next 0 [(.v 3), (.o (.add .i64) (.v 4) (.i 1))]))))
 (.next 0 [(.v 3), (.o (.add .i64) (.v 4) (.i 1))]))))
 (.leaf [(.v 3)])))
noncomputable def k_simulatorref46_Window : Known Try.prog := known mixedOk [] (by decide) [⟨1800003, [(7, 45), (8, 0)], [9, 10, 11, 12, 15, 16, 17, 18, 19, 20, 21, 22, 23, 24, 25, 26, 27, 28, 29, 30, 31, 32, 33, 34, 35, 36, 37, 13, 14], [], []⟩] plTypes plOk inFuncs insOk 6 ⟨18, [(.a (.row 45 [(.int .i64), (.int .i64)] true)), (.a (.ck (.int .i64))), (.a (.ck (.int .i64)))], (.c (.a (.row 45 [(.int .i64), (.int .i64)] true)))⟩ (fun args w => Try.call18 args w) tk_simulatorref46_Window (by kernel_rfl)
theorem k_simulatorref46_Window_f : k_simulatorref46_Window.con.f = 18 := rfl
theorem k_simulatorref46_Window_F (l : List Sc) : k_simulatorref46_Window.F l = if l.length = 3 then tk_simulatorref46_Window.den (gam (P := Try.prog) []) l [] else none := rfl
def tk_simulatorref02_Same : T (List Ex) :=
 (.ite (.o .ne (.u .len (.v 0)) (.u .len (.v 1)))
 (.leaf [(.b false)])
 (.loop [(.i 0)]
 (.ite (.o .lt (.v 2) (.u .len (.v 0)))
 (.need (.o .le (.i 0) (.v 2)) (.need (.o .lt (.v 2) (.u .len (.v 0))) (.need (.o .le (.i 0) (.v 2)) (.need (.o .lt (.v 2) (.u .len (.v 1))) (.ite (.u .not (.o .and (.o .eq (.u (.cell 0) (.o .idx (.v 0) (.v 2))) (.u (.cell 0) (.o .idx (.v 1) (.v 2)))) (.o .and (.o .eq (.u (.cell 1) (.o .idx (.v 0) (.v 2))) (.u (.cell 1) (.o .idx (.v 1) (.v 2)))) (.b true))))
 (.leaf [(.b false)])
 (.next 0 [(.o (.add .i64) (.v 2) (.i 1))]))))))
 (.leaf [(.b true)]))))
noncomputable def k_simulatorref02_Same : Known Try.prog := known mixedOk [] (by decide) [⟨2100004, [(5, 0)], [11, 12, 13, 14, 17, 18, 19, 20, 21, 22, 23, 24, 25, 4, 15, 16], [], []⟩] plTypes plOk inFuncs insOk 6 ⟨21, [(.a (.row 49 [(.int .i64), (.int .i64)] true)), (.a (.row 49 [(.int .i64), (.int .i64)] true))], (.c (.a (.ck .bool)))⟩ (fun args w => Try.call21 args w) tk_simulatorref02_Same (by kernel_rfl)
theorem k_simulatorref02_Same_f : k_simulatorref02_Same.con.f = 21 := rfl
theorem k_simulatorref02_Same_F (l : List Sc) : k_simulatorref02_Same.F l = if l.length = 2 then tk_simulatorref02_Same.den (gam (P := Try.prog) []) l [] else none := rfl
def tk_simulatorref27_Observation : T (List Ex) :=
 (.ite (.o .le (.i (-1000000)) (.v 0))
 (.leaf [(.o .le (.v 0) (.i 1000000))])
 (.leaf [(.b false)]))
noncomputable def k_simulatorref27_Observation : Known Try.prog := known mixedOk [] (by decide) [] plTypes plOk inFuncs insOk 6 ⟨28, [(.a (.ck (.int .i64)))], (.c (.a (.ck .bool)))⟩ (fun args w => Try.call28 args w) tk_simulatorref27_Observation (by kernel_rfl)
theorem k_simulatorref27_Observation_f : k_simulatorref27_Observation.con.f = 28 := rfl
theorem k_simulatorref27_Observation_F (l : List Sc) : k_simulatorref27_Observation.F l = if l.length = 1 then tk_simulatorref27_Observation.den (gam (P := Try.prog) []) l [] else none := rfl
def tk_simulatorref02_Size : T (List Ex) :=
 (.ite (.o .lt (.v 0) (.i 0))
 (.leaf [(.o (.add .u64) (.u (.conv .u64) (.o (.sub .i64) (.i 0) (.o (.add .i64) (.v 0) (.i 1)))) (.i 1))])
 (.leaf [(.u (.conv .u64) (.v 0))]))
noncomputable def k_simulatorref02_Size : Known Try.prog := known mixedOk [] (by decide) [] plTypes plOk inFuncs insOk 6 ⟨33, [(.a (.ck (.int .i64)))], (.c (.a (.ck (.int .u64))))⟩ (fun args w => Try.call33 args w) tk_simulatorref02_Size (by kernel_rfl)
theorem k_simulatorref02_Size_f : k_simulatorref02_Size.con.f = 33 := rfl
theorem k_simulatorref02_Size_F (l : List Sc) : k_simulatorref02_Size.F l = if l.length = 1 then tk_simulatorref02_Size.den (gam (P := Try.prog) []) l [] else none := rfl
def tk_frac_gcd : T (List Ex) :=
 (.loop [(.v 0), (.v 1)]
 (.ite (.o .ne (.v 3) (.i 0))
 (.need (.o .ne (.v 3) (.i 0)) (.next 0 [(.v 3), (.o (.rem .u64) (.v 2) (.v 3))]))
 (.leaf [(.v 2)])))
noncomputable def k_frac_gcd : Known Try.prog := known mixedOk [] (by decide) [⟨3500001, [(0, 0), (1, 0)], [5, 6, 7, 8, 9, 10], [], []⟩] plTypes plOk inFuncs insOk 6 ⟨35, [(.a (.ck (.int .u64))), (.a (.ck (.int .u64)))], (.c (.a (.ck (.int .u64))))⟩ (fun args w => Try.call35 args w) tk_frac_gcd (by kernel_rfl)
theorem k_frac_gcd_f : k_frac_gcd.con.f = 35 := rfl
theorem k_frac_gcd_F (l : List Sc) : k_frac_gcd.F l = if l.length = 2 then tk_frac_gcd.den (gam (P := Try.prog) []) l [] else none := rfl
def tk_frac_size : T (List Ex) :=
 (.ite (.o .lt (.v 0) (.i 0))
 (.leaf [(.o (.sub .u64) (.i 0) (.u (.conv .u64) (.v 0)))])
 (.leaf [(.u (.conv .u64) (.v 0))]))
noncomputable def k_frac_size : Known Try.prog := known mixedOk [] (by decide) [] plTypes plOk inFuncs insOk 6 ⟨36, [(.a (.ck (.int .i64)))], (.c (.a (.ck (.int .u64))))⟩ (fun args w => Try.call36 args w) tk_frac_size (by kernel_rfl)
theorem k_frac_size_f : k_frac_size.con.f = 36 := rfl
theorem k_frac_size_F (l : List Sc) : k_frac_size.F l = if l.length = 1 then tk_frac_size.den (gam (P := Try.prog) []) l [] else none := rfl
def tk_frac_made : T (List Ex) :=
 (.ite (.o .lt (.i 4611686018427387904) (.v 1))
 (.leaf [(.i 0), (.i 0), (.b false)])
 (.ite (.o .lt (.i 1000000000000000) (.v 2))
 (.leaf [(.i 0), (.i 0), (.b false)])
 (.ite (.v 0)
 (.leaf [(.o (.sub .i64) (.i 0) (.u (.conv .i64) (.v 1))), (.u (.conv .i64) (.v 2)), (.b true)])
 (.leaf [(.u (.conv .i64) (.v 1)), (.u (.conv .i64) (.v 2)), (.b true)]))))
noncomputable def k_frac_made : Known Try.prog := known mixedOk [] (by decide) [] plTypes plOk inFuncs insOk 6 ⟨37, [(.a (.ck .bool)), (.a (.ck (.int .u64))), (.a (.ck (.int .u64)))], (.t [(.g [(.ck (.int .i64)), (.ck (.int .i64))]), (.a (.ck .bool))])⟩ (fun args w => Try.call37 args w) tk_frac_made (by kernel_rfl)
theorem k_frac_made_f : k_frac_made.con.f = 37 := rfl
theorem k_frac_made_F (l : List Sc) : k_frac_made.F l = if l.length = 3 then tk_frac_made.den (gam (P := Try.prog) []) l [] else none := rfl
def tk_tally_value : T (List Ex) :=
 (.ite (.o .le (.i (-1000000)) (.v 0))
 (.leaf [(.o .le (.v 0) (.i 1000000))])
 (.leaf [(.b false)]))
noncomputable def k_tally_value : Known Try.prog := known mixedOk [] (by decide) [] plTypes plOk inFuncs insOk 6 ⟨38, [(.a (.ck (.int .i64)))], (.c (.a (.ck .bool)))⟩ (fun args w => Try.call38 args w) tk_tally_value (by kernel_rfl)
theorem k_tally_value_f : k_tally_value.con.f = 38 := rfl
theorem k_tally_value_F (l : List Sc) : k_tally_value.F l = if l.length = 1 then tk_tally_value.den (gam (P := Try.prog) []) l [] else none := rfl
def tk_tally_joined : T (List Ex) :=
 (.ite (.o .eq (.v 0) (.i 0))
 (.leaf [(.v 5), (.v 6), (.v 7), (.v 8), (.v 9)])
 (.ite (.o .eq (.v 5) (.i 0))
 (.leaf [(.v 0), (.v 1), (.v 2), (.v 3), (.v 4)])
 (.leaf [(.o (.add .i64) (.v 0) (.v 5)), (.o (.add .i64) (.v 1) (.v 6)), (.o (.add .i64) (.v 2) (.v 7)), (.o .min (.v 3) (.v 8)), (.o .max (.v 4) (.v 9))])))
noncomputable def k_tally_joined : Known Try.prog := known mixedOk [] (by decide) [] plTypes plOk inFuncs insOk 6 ⟨39, [(.g [(.ck (.int .i64)), (.ck (.int .i64)), (.ck (.int .i64)), (.ck (.int .i64)), (.ck (.int .i64))]), (.g [(.ck (.int .i64)), (.ck (.int .i64)), (.ck (.int .i64)), (.ck (.int .i64)), (.ck (.int .i64))])], (.c (.g [(.ck (.int .i64)), (.ck (.int .i64)), (.ck (.int .i64)), (.ck (.int .i64)), (.ck (.int .i64))]))⟩ (fun args w => Try.call39 args w) tk_tally_joined (by kernel_rfl)
theorem k_tally_joined_f : k_tally_joined.con.f = 39 := rfl
theorem k_tally_joined_F (l : List Sc) : k_tally_joined.F l = if l.length = 10 then tk_tally_joined.den (gam (P := Try.prog) []) l [] else none := rfl
def tk_frac_Valid : T (List Ex) :=
 (.ite (.o .le (.i 1) (.v 1))
 (.ite (.o .le (.v 1) (.i 1000000000000000))
 (.call 36 [(.v 0)] 1
 (.ite (.o .le (.v 2) (.i 4611686018427387904))
 (.call 36 [(.v 0)] 1
 (.call 35 [(.v 3), (.u (.conv .u64) (.v 1))] 1
 (.leaf [(.o .eq (.v 4) (.i 1))])))
 (.leaf [(.b false)])))
 (.leaf [(.b false)]))
 (.leaf [(.b false)]))
noncomputable def k_frac_Valid : Known Try.prog := known mixedOk [k_frac_size, k_frac_gcd] (by decide) [] plTypes plOk inFuncs insOk 6 ⟨40, [(.g [(.ck (.int .i64)), (.ck (.int .i64))])], (.c (.a (.ck .bool)))⟩ (fun args w => Try.call40 args w) tk_frac_Valid (by kernel_rfl)
theorem k_frac_Valid_f : k_frac_Valid.con.f = 40 := rfl
theorem k_frac_Valid_F (l : List Sc) : k_frac_Valid.F l = if l.length = 2 then tk_frac_Valid.den (gam (P := Try.prog) [k_frac_size, k_frac_gcd]) l [] else none := rfl
def tk_simulatorref27_least : T (List Ex) :=
 (.ite (.o .lt (.v 0) (.v 1))
 (.leaf [(.v 0)])
 (.leaf [(.v 1)]))
noncomputable def k_simulatorref27_least : Known Try.prog := known mixedOk [] (by decide) [] plTypes plOk inFuncs insOk 6 ⟨48, [(.a (.ck (.int .i64))), (.a (.ck (.int .i64)))], (.c (.a (.ck (.int .i64))))⟩ (fun args w => Try.call48 args w) tk_simulatorref27_least (by kernel_rfl)
theorem k_simulatorref27_least_f : k_simulatorref27_least.con.f = 48 := rfl
theorem k_simulatorref27_least_F (l : List Sc) : k_simulatorref27_least.F l = if l.length = 2 then tk_simulatorref27_least.den (gam (P := Try.prog) []) l [] else none := rfl
def tk_simulatorref27_most : T (List Ex) :=
 (.ite (.o .lt (.v 1) (.v 0))
 (.leaf [(.v 0)])
 (.leaf [(.v 1)]))
noncomputable def k_simulatorref27_most : Known Try.prog := known mixedOk [] (by decide) [] plTypes plOk inFuncs insOk 6 ⟨49, [(.a (.ck (.int .i64))), (.a (.ck (.int .i64)))], (.c (.a (.ck (.int .i64))))⟩ (fun args w => Try.call49 args w) tk_simulatorref27_most (by kernel_rfl)
theorem k_simulatorref27_most_f : k_simulatorref27_most.con.f = 49 := rfl
theorem k_simulatorref27_most_F (l : List Sc) : k_simulatorref27_most.F l = if l.length = 2 then tk_simulatorref27_most.den (gam (P := Try.prog) []) l [] else none := rfl
def tk_frac_wide_plus : T (List Ex) :=
 (.call 58 [(.v 1), (.v 3), (.i 0)] 2
 (.call 58 [(.v 0), (.v 2), (.v 5)] 2
 (.leaf [(.v 6), (.v 4)])))
noncomputable def k_frac_wide_plus : Known Try.prog := known mixedOk [k_bits_Add64] (by decide) [] plTypes plOk inFuncs insOk 6 ⟨50, [(.g [(.ck (.int .u64)), (.ck (.int .u64))]), (.g [(.ck (.int .u64)), (.ck (.int .u64))])], (.c (.g [(.ck (.int .u64)), (.ck (.int .u64))]))⟩ (fun args w => Try.call50 args w) tk_frac_wide_plus (by kernel_rfl)
theorem k_frac_wide_plus_f : k_frac_wide_plus.con.f = 50 := rfl
theorem k_frac_wide_plus_F (l : List Sc) : k_frac_wide_plus.F l = if l.length = 4 then tk_frac_wide_plus.den (gam (P := Try.prog) [k_bits_Add64]) l [] else none := rfl
def tk_frac_wide_minus : T (List Ex) :=
 (.ite (.o .lt (.v 0) (.v 2))
 (.call 51 [(.v 2), (.v 3), (.v 0), (.v 1)] 3
 (.leaf [(.v 4), (.v 5), (.b true)]))
 (.ite (.o .eq (.v 0) (.v 2))
 (.ite (.o .lt (.v 1) (.v 3))
 (.call 51 [(.v 2), (.v 3), (.v 0), (.v 1)] 3
 (.leaf [(.v 4), (.v 5), (.b true)]))
 (.call 59 [(.v 1), (.v 3), (.i 0)] 2
 (.call 59 [(.v 0), (.v 2), (.v 5)] 2
 (.leaf [(.v 6), (.v 4), (.b false)]))))
 (.call 59 [(.v 1), (.v 3), (.i 0)] 2
 (.call 59 [(.v 0), (.v 2), (.v 5)] 2
 (.leaf [(.v 6), (.v 4), (.b false)])))))
noncomputable def k_frac_wide_minus_rec0 : Nat → {k : Known Try.prog // k.con = ⟨51, [(.g [(.ck (.int .u64)), (.ck (.int .u64))]), (.g [(.ck (.int .u64)), (.ck (.int .u64))])], (.t [(.g [(.ck (.int .u64)), (.ck (.int .u64))]), (.a (.ck .bool))])⟩} := knownRec mixedOk [k_bits_Sub64] ⟨51, [(.g [(.ck (.int .u64)), (.ck (.int .u64))]), (.g [(.ck (.int .u64)), (.ck (.int .u64))])], (.t [(.g [(.ck (.int .u64)), (.ck (.int .u64))]), (.a (.ck .bool))])⟩ (by decide) [] plTypes plOk inFuncs insOk 6 (fun args w => Try.call51 args w) tk_frac_wide_minus (by kernel_rfl)
noncomputable def k_frac_wide_minus_rec (n : Nat) : Known Try.prog := (k_frac_wide_minus_rec0 n).1
theorem k_frac_wide_minus_rec_con (n : Nat) : (k_frac_wide_minus_rec n).con = ⟨51, [(.g [(.ck (.int .u64)), (.ck (.int .u64))]), (.g [(.ck (.int .u64)), (.ck (.int .u64))])], (.t [(.g [(.ck (.int .u64)), (.ck (.int .u64))]), (.a (.ck .bool))])⟩ := (k_frac_wide_minus_rec0 n).2
theorem k_frac_wide_minus_rec_f (n : Nat) : (k_frac_wide_minus_rec n).con.f = 51 := by rw [k_frac_wide_minus_rec_con]
theorem k_frac_wide_minus_rec_F (n : Nat) (l : List Sc) : (k_frac_wide_minus_rec (n + 1)).F l = if l.length = 4 then tk_frac_wide_minus.den (gam (P := Try.prog) (k_frac_wide_minus_rec n :: [k_bits_Sub64])) l [] else none := rfl
noncomputable def k_frac_wide_minus : Known Try.prog := ⟨⟨51, [(.g [(.ck (.int .u64)), (.ck (.int .u64))]), (.g [(.ck (.int .u64)), (.ck (.int .u64))])], (.t [(.g [(.ck (.int .u64)), (.ck (.int .u64))]), (.a (.ck .bool))])⟩, (k_frac_wide_minus_rec rounds).F, by rw [← k_frac_wide_minus_rec_con rounds]; exact (k_frac_wide_minus_rec rounds).holds⟩
theorem k_frac_wide_minus_f : k_frac_wide_minus.con.f = 51 := rfl
theorem k_frac_wide_minus_F (l : List Sc) : k_frac_wide_minus.F l = (k_frac_wide_minus_rec rounds).F l := rfl
def tk_bits_Mul64 : T (List Ex) :=
 (.leaf [(.o (.add .u64) (.o (.add .u64) (.o (.mul .u64) (.o (.shr .u64) (.v 0) (.i 32)) (.o (.shr .u64) (.v 1) (.i 32))) (.o (.shr .u64) (.o (.add .u64) (.o (.mul .u64) (.o (.shr .u64) (.v 0) (.i 32)) (.o (.band .u64) (.v 1) (.i 4294967295))) (.o (.shr .u64) (.o (.mul .u64) (.o (.band .u64) (.v 0) (.i 4294967295)) (.o (.band .u64) (.v 1) (.i 4294967295))) (.i 32))) (.i 32))) (.o (.shr .u64) (.o (.add .u64) (.o (.band .u64) (.o (.add .u64) (.o (.mul .u64) (.o (.shr .u64) (.v 0) (.i 32)) (.o (.band .u64) (.v 1) (.i 4294967295))) (.o (.shr .u64) (.o (.mul .u64) (.o (.band .u64) (.v 0) (.i 4294967295)) (.o (.band .u64) (.v 1) (.i 4294967295))) (.i 32))) (.i 4294967295)) (.o (.mul .u64) (.o (.band .u64) (.v 0) (.i 4294967295)) (.o (.shr .u64) (.v 1) (.i 32)))) (.i 32))), (.o (.mul .u64) (.v 0) (.v 1))])
noncomputable def k_bits_Mul64 : Known Try.prog := known mixedOk [] (by decide) [] plTypes plOk inFuncs insOk 6 ⟨52, [(.a (.ck (.int .u64))), (.a (.ck (.int .u64)))], (.t [(.a (.ck (.int .u64))), (.a (.ck (.int .u64)))])⟩ (fun args w => Try.call52 args w) tk_bits_Mul64 (by kernel_rfl)
theorem k_bits_Mul64_f : k_bits_Mul64.con.f = 52 := rfl
theorem k_bits_Mul64_F (l : List Sc) : k_bits_Mul64.F l = if l.length = 2 then tk_bits_Mul64.den (gam (P := Try.prog) []) l [] else none := rfl
def tk_simulatorref02_Plus : T (List Ex) :=
 (.ite (.o .lt (.o (.add .u64) (.v 1) (.v 3)) (.v 1))
 (.leaf [(.o (.add .u64) (.o (.add .u64) (.v 0) (.v 2)) (.i 1)), (.o (.add .u64) (.v 1) (.v 3))])
 (.leaf [(.o (.add .u64) (.v 0) (.v 2)), (.o (.add .u64) (.v 1) (.v 3))]))
noncomputable def k_simulatorref02_Plus : Known Try.prog := known mixedOk [] (by decide) [] plTypes plOk inFuncs insOk 6 ⟨54, [(.g [(.ck (.int .u64)), (.ck (.int .u64))]), (.g [(.ck (.int .u64)), (.ck (.int .u64))])], (.c (.g [(.ck (.int .u64)), (.ck (.int .u64))]))⟩ (fun args w => Try.call54 args w) tk_simulatorref02_Plus (by kernel_rfl)
theorem k_simulatorref02_Plus_f : k_simulatorref02_Plus.con.f = 54 := rfl
theorem k_simulatorref02_Plus_F (l : List Sc) : k_simulatorref02_Plus.F l = if l.length = 4 then tk_simulatorref02_Plus.den (gam (P := Try.prog) []) l [] else none := rfl
def tk_simulatorref02_bit : T (List Ex) :=
 (.ite (.o .le (.i 64) (.v 2))
 (.need (.o .le (.i 0) (.u (.conv .u64) (.o (.sub .i64) (.v 2) (.i 64)))) (.leaf [(.o (.rem .u64) (.o (.shr .u64) (.v 0) (.u (.conv .u64) (.o (.sub .i64) (.v 2) (.i 64)))) (.i 2))]))
 (.need (.o .le (.i 0) (.u (.conv .u64) (.v 2))) (.leaf [(.o (.rem .u64) (.o (.shr .u64) (.v 1) (.u (.conv .u64) (.v 2))) (.i 2))])))
noncomputable def k_simulatorref02_bit : Known Try.prog := known mixedOk [] (by decide) [] plTypes plOk inFuncs insOk 6 ⟨55, [(.g [(.ck (.int .u64)), (.ck (.int .u64))]), (.a (.ck (.int .i64)))], (.c (.a (.ck (.int .u64))))⟩ (fun args w => Try.call55 args w) tk_simulatorref02_bit (by kernel_rfl)
theorem k_simulatorref02_bit_f : k_simulatorref02_bit.con.f = 55 := rfl
theorem k_simulatorref02_bit_F (l : List Sc) : k_simulatorref02_bit.F l = if l.length = 3 then tk_simulatorref02_bit.den (gam (P := Try.prog) []) l [] else none := rfl
def tk_simulatorref02_Less : T (List Ex) :=
 (.ite (.o .lt (.v 0) (.v 2))
 (.leaf [(.b true)])
 (.ite (.o .eq (.v 0) (.v 2))
 (.leaf [(.o .lt (.v 1) (.v 3))])
 (.leaf [(.b false)])))
noncomputable def k_simulatorref02_Less : Known Try.prog := known mixedOk [] (by decide) [] plTypes plOk inFuncs insOk 6 ⟨56, [(.g [(.ck (.int .u64)), (.ck (.int .u64))]), (.g [(.ck (.int .u64)), (.ck (.int .u64))])], (.c (.a (.ck .bool)))⟩ (fun args w => Try.call56 args w) tk_simulatorref02_Less (by kernel_rfl)
theorem k_simulatorref02_Less_f : k_simulatorref02_Less.con.f = 56 := rfl
theorem k_simulatorref02_Less_F (l : List Sc) : k_simulatorref02_Less.F l = if l.length = 4 then tk_simulatorref02_Less.den (gam (P := Try.prog) []) l [] else none := rfl
def tk_simulatorref02_Minus : T (List Ex) :=
 (.ite (.o .lt (.v 1) (.v 3))
 (.leaf [(.o (.sub .u64) (.o (.sub .u64) (.v 0) (.v 2)) (.i 1)), (.o (.sub .u64) (.v 1) (.v 3))])
 (.leaf [(.o (.sub .u64) (.v 0) (.v 2)), (.o (.sub .u64) (.v 1) (.v 3))]))
noncomputable def k_simulatorref02_Minus : Known Try.prog := known mixedOk [] (by decide) [] plTypes plOk inFuncs insOk 6 ⟨57, [(.g [(.ck (.int .u64)), (.ck (.int .u64))]), (.g [(.ck (.int .u64)), (.ck (.int .u64))])], (.c (.g [(.ck (.int .u64)), (.ck (.int .u64))]))⟩ (fun args w => Try.call57 args w) tk_simulatorref02_Minus (by kernel_rfl)
theorem k_simulatorref02_Minus_f : k_simulatorref02_Minus.con.f = 57 := rfl
theorem k_simulatorref02_Minus_F (l : List Sc) : k_simulatorref02_Minus.F l = if l.length = 4 then tk_simulatorref02_Minus.den (gam (P := Try.prog) []) l [] else none := rfl
def tk_bits_Len64 : T (List Ex) :=
 (.ite (.o .le (.i 4294967296) (.v 0))
 (.ite (.o .le (.i 65536) (.o (.shr .u64) (.v 0) (.i 32)))
 (.ite (.o .le (.i 256) (.o (.shr .u64) (.o (.shr .u64) (.v 0) (.i 32)) (.i 16)))
 (.need (.o .le (.i 0) (.u (.conv .u8) (.o (.shr .u64) (.o (.shr .u64) (.o (.shr .u64) (.v 0) (.i 32)) (.i 16)) (.i 8)))) (.need (.o .lt (.u (.conv .u8) (.o (.shr .u64) (.o (.shr .u64) (.o (.shr .u64) (.v 0) (.i 32)) (.i 16)) (.i 8))) (.u .slen (.s [0, 1, 2, 2, 3, 3, 3, 3, 4, 4, 4, 4, 4, 4, 4, 4, 5, 5, 5, 5, 5, 5, 5, 5, 5, 5, 5, 5, 5, 5, 5, 5, 6, 6, 6, 6, 6, 6, 6, 6, 6, 6, 6, 6, 6, 6, 6, 6, 6, 6, 6, 6, 6, 6, 6, 6, 6, 6, 6, 6, 6, 6, 6, 6, 7, 7, 7, 7, 7, 7, 7, 7, 7, 7, 7, 7, 7, 7, 7, 7, 7, 7, 7, 7, 7, 7, 7, 7, 7, 7, 7, 7, 7, 7, 7, 7, 7, 7, 7, 7, 7, 7, 7, 7, 7, 7, 7, 7, 7, 7, 7, 7, 7, 7, 7, 7, 7, 7, 7, 7, 7, 7, 7, 7, 7, 7, 7, 7, 8, 8, 8, 8, 8, 8, 8, 8, 8, 8, 8, 8, 8, 8, 8, 8, 8, 8, 8, 8, 8, 8, 8, 8, 8, 8, 8, 8, 8, 8, 8, 8, 8, 8, 8, 8, 8, 8, 8, 8, 8, 8, 8, 8, 8, 8, 8, 8, 8, 8, 8, 8, 8, 8, 8, 8, 8, 8, 8, 8, 8, 8, 8, 8, 8, 8, 8, 8, 8, 8, 8, 8, 8, 8, 8, 8, 8, 8, 8, 8, 8, 8, 8, 8, 8, 8, 8, 8, 8, 8, 8, 8, 8, 8, 8, 8, 8, 8, 8, 8, 8, 8, 8, 8, 8, 8, 8, 8, 8, 8, 8, 8, 8, 8, 8, 8, 8, 8, 8, 8, 8, 8, 8, 8, 8, 8, 8, 8]))) (.leaf [(.o (.add .i64) (.i 56) (.u (.conv .i64) (.o .sidx (.s [0, 1, 2, 2, 3, 3, 3, 3, 4, 4, 4, 4, 4, 4, 4, 4, 5, 5, 5, 5, 5, 5, 5, 5, 5, 5, 5, 5, 5, 5, 5, 5, 6, 6, 6, 6, 6, 6, 6, 6, 6, 6, 6, 6, 6, 6, 6, 6, 6, 6, 6, 6, 6, 6, 6, 6, 6, 6, 6, 6, 6, 6, 6, 6, 7, 7, 7, 7, 7, 7, 7, 7, 7, 7, 7, 7, 7, 7, 7, 7, 7, 7, 7, 7, 7, 7, 7, 7, 7, 7, 7, 7, 7, 7, 7, 7, 7, 7, 7, 7, 7, 7, 7, 7, 7, 7, 7, 7, 7, 7, 7, 7, 7, 7, 7, 7, 7, 7, 7, 7, 7, 7, 7, 7, 7, 7, 7, 7, 8, 8, 8, 8, 8, 8, 8, 8, 8, 8, 8, 8, 8, 8, 8, 8, 8, 8, 8, 8, 8, 8, 8, 8, 8, 8, 8, 8, 8, 8, 8, 8, 8, 8, 8, 8, 8, 8, 8, 8, 8, 8, 8, 8, 8, 8, 8, 8, 8, 8, 8, 8, 8, 8, 8, 8, 8, 8, 8, 8, 8, 8, 8, 8, 8, 8, 8, 8, 8, 8, 8, 8, 8, 8, 8, 8, 8, 8, 8, 8, 8, 8, 8, 8, 8, 8, 8, 8, 8, 8, 8, 8, 8, 8, 8, 8, 8, 8, 8, 8, 8, 8, 8, 8, 8, 8, 8, 8, 8, 8, 8, 8, 8, 8, 8, 8, 8, 8, 8, 8, 8, 8, 8, 8, 8, 8, 8, 8]) (.u (.conv .u8) (.o (.shr .u64) (.o (.shr .u64) (.o (.shr .u64) (.v 0) (.i 32)) (.i 16)) (.i 8))))))])))
 (.need (.o .le (.i 0) (.u (.conv .u8) (.o (.shr .u64) (.o (.shr .u64) (.v 0) (.i 32)) (.i 16)))) (.need (.o .lt (.u (.conv .u8) (.o (.shr .u64) (.o (.shr .u64) (.v 0) (.i 32)) (.i 16))) (.u .slen (.s [0, 1, 2, 2, 3, 3, 3, 3, 4, 4, 4, 4, 4, 4, 4, 4, 5, 5, 5, 5, 5, 5, 5, 5, 5, 5, 5, 5, 5, 5, 5, 5, 6, 6, 6, 6, 6, 6, 6, 6, 6, 6, 6, 6, 6, 6, 6, 6, 6, 6, 6, 6, 6, 6, 6, 6, 6, 6, 6, 6, 6, 6, 6, 6, 7, 7, 7, 7, 7, 7, 7, 7, 7, 7, 7, 7, 7, 7, 7, 7, 7, 7, 7, 7, 7, 7, 7, 7, 7, 7, 7, 7, 7, 7, 7, 7, 7, 7, 7, 7, 7, 7, 7, 7, 7, 7, 7, 7, 7, 7, 7, 7, 7, 7, 7, 7, 7, 7, 7, 7, 7, 7, 7, 7, 7, 7, 7, 7, 8, 8, 8, 8, 8, 8, 8, 8, 8, 8, 8, 8, 8, 8, 8, 8, 8, 8, 8, 8, 8, 8, 8, 8, 8, 8, 8, 8, 8, 8, 8, 8, 8, 8, 8, 8, 8, 8, 8, 8, 8, 8, 8, 8, 8, 8, 8, 8, 8, 8, 8, 8, 8, 8, 8, 8, 8, 8, 8, 8, 8, 8, 8, 8, 8, 8, 8, 8, 8, 8, 8, 8, 8, 8, 8, 8, 8, 8, 8, 8, 8, 8, 8, 8, 8, 8, 8, 8, 8, 8, 8, 8, 8, 8, 8, 8, 8, 8, 8, 8, 8, 8, 8, 8, 8, 8, 8, 8, 8, 8, 8, 8, 8, 8, 8, 8, 8, 8, 8, 8, 8, 8, 8, 8, 8, 8, 8, 8]))) (.leaf [(.o (.add .i64) (.i 48) (.u (.conv .i64) (.o .sidx (.s [0, 1, 2, 2, 3, 3, 3, 3, 4, 4, 4, 4, 4, 4, 4, 4, 5, 5, 5, 5, 5, 5, 5, 5, 5, 5, 5, 5, 5, 5, 5, 5, 6, 6, 6, 6, 6, 6, 6, 6, 6, 6, 6, 6, 6, 6, 6, 6, 6, 6, 6, 6, 6, 6, 6, 6, 6, 6, 6, 6, 6, 6, 6, 6, 7, 7, 7, 7, 7, 7, 7, 7, 7, 7, 7, 7, 7, 7, 7, 7, 7, 7, 7, 7, 7, 7, 7, 7, 7, 7, 7, 7, 7, 7, 7, 7, 7, 7, 7, 7, 7, 7, 7, 7, 7, 7, 7, 7, 7, 7, 7, 7, 7, 7, 7, 7, 7, 7, 7, 7, 7, 7, 7, 7, 7, 7, 7, 7, 8, 8, 8, 8, 8, 8, 8, 8, 8, 8, 8, 8, 8, 8, 8, 8, 8, 8, 8, 8, 8, 8, 8, 8, 8, 8, 8, 8, 8, 8, 8, 8, 8, 8, 8, 8, 8, 8, 8, 8, 8, 8, 8, 8, 8, 8, 8, 8, 8, 8, 8, 8, 8, 8, 8, 8, 8, 8, 8, 8, 8, 8, 8, 8, 8, 8, 8, 8, 8, 8, 8, 8, 8, 8, 8, 8, 8, 8, 8, 8, 8, 8, 8, 8, 8, 8, 8, 8, 8, 8, 8, 8, 8, 8, 8, 8, 8, 8, 8, 8, 8, 8, 8, 8, 8, 8, 8, 8, 8, 8, 8, 8, 8, 8, 8, 8, 8, 8, 8, 8, 8, 8, 8, 8, 8, 8, 8, 8]) (.u (.conv .u8) (.o (.shr .u64) (.o (.shr .u64) (.v 0) (.i 32)) (.i 16))))))]))))
 (.ite (.o .le (.i 256) (.o (.shr .u64) (.v 0) (.i 32)))
 (.need (.o .le (.i 0) (.u (.conv .u8) (.o (.shr .u64) (.o (.shr .u64) (.v 0) (.i 32)) (.i 8)))) (.need (.o .lt (.u (.conv .u8) (.o (.shr .u64) (.o (.shr .u64) (.v 0) (.i 32)) (.i 8))) (.u .slen (.s [0, 1, 2, 2, 3, 3, 3, 3, 4, 4, 4, 4, 4, 4, 4, 4, 5, 5, 5, 5, 5, 5, 5, 5, 5, 5, 5, 5, 5, 5, 5, 5, 6, 6, 6, 6, 6, 6, 6, 6, 6, 6, 6, 6, 6, 6, 6, 6, 6, 6, 6, 6, 6, 6, 6, 6, 6, 6, 6, 6, 6, 6, 6, 6, 7, 7, 7, 7, 7, 7, 7, 7, 7, 7, 7, 7, 7, 7, 7, 7, 7, 7, 7, 7, 7, 7, 7, 7, 7, 7, 7, 7, 7, 7, 7, 7, 7, 7, 7, 7, 7, 7, 7, 7, 7, 7, 7, 7, 7, 7, 7, 7, 7, 7, 7, 7, 7, 7, 7, 7, 7, 7, 7, 7, 7, 7, 7, 7, 8, 8, 8, 8, 8, 8, 8, 8, 8, 8, 8, 8, 8, 8, 8, 8, 8, 8, 8, 8, 8, 8, 8, 8, 8, 8, 8, 8, 8, 8, 8, 8, 8, 8, 8, 8, 8, 8, 8, 8, 8, 8, 8, 8, 8, 8, 8, 8, 8, 8, 8, 8, 8, 8, 8, 8, 8, 8, 8, 8, 8, 8, 8, 8, 8, 8, 8, 8, 8, 8, 8, 8, 8, 8, 8, 8, 8, 8, 8, 8, 8, 8, 8, 8, 8, 8, 8, 8, 8, 8, 8, 8, 8, 8, 8, 8, 8, 8, 8, 8, 8, 8, 8, 8, 8, 8, 8, 8, 8, 8, 8, 8, 8, 8, 8, 8, 8, 8, 8, 8, 8, 8, 8, 8, 8, 8, 8, 8]))) (.leaf [(.o (.add .i64) (.i 40) (.u (.conv .i64) (.o .sidx (.s [0, 1, 2, 2, 3, 3, 3, 3, 4, 4, 4, 4, 4, 4, 4, 4, 5, 5, 5, 5, 5, 5, 5, 5, 5, 5, 5, 5, 5, 5, 5, 5, 6, 6, 6, 6, 6, 6, 6, 6, 6, 6, 6, 6, 6, 6, 6, 6, 6, 6, 6, 6, 6, 6, 6, 6, 6, 6, 6, 6, 6, 6, 6, 6, 7, 7, 7, 7, 7, 7, 7, 7, 7, 7, 7, 7, 7, 7, 7, 7, 7, 7, 7, 7, 7, 7, 7, 7, 7, 7, 7, 7, 7, 7, 7, 7, 7, 7, 7, 7, 7, 7, 7, 7, 7, 7, 7, 7, 7, 7, 7, 7, 7, 7, 7, 7, 7, 7, 7, 7, 7, 7, 7, 7, 7, 7, 7, 7, 8, 8, 8, 8, 8, 8, 8, 8, 8, 8, 8, 8, 8, 8, 8, 8, 8, 8, 8, 8, 8, 8, 8, 8, 8, 8, 8, 8, 8, 8, 8, 8, 8, 8, 8, 8, 8, 8, 8, 8, 8, 8, 8, 8, 8, 8, 8, 8, 8, 8, 8, 8, 8, 8, 8, 8, 8, 8, 8, 8, 8, 8, 8, 8, 8, 8, 8, 8, 8, 8, 8, 8, 8, 8, 8, 8, 8, 8, 8, 8, 8, 8, 8, 8, 8, 8, 8, 8, 8, 8, 8, 8, 8, 8, 8, 8, 8, 8, 8, 8, 8, 8, 8, 8, 8, 8, 8, 8, 8, 8, 8, 8, 8, 8, 8, 8, 8, 8, 8, 8, 8, 8, 8, 8, 8, 8, 8, 8]) (.u (.conv .u8) (.o (.shr .u64) (.o (.shr .u64) (.v 0) (.i 32)) (.i 8))))))])))
 (.need (.o .le (.i 0) (.u (.conv .u8) (.o (.shr .u64) (.v 0) (.i 32)))) (.need (.o .lt (.u (.conv .u8) (.o (.shr .u64) (.v 0) (.i 32))) (.u .slen (.s [0, 1, 2, 2, 3, 3, 3, 3, 4, 4, 4, 4, 4, 4, 4, 4, 5, 5, 5, 5, 5, 5, 5, 5, 5, 5, 5, 5, 5, 5, 5, 5, 6, 6, 6, 6, 6, 6, 6, 6, 6, 6, 6, 6, 6, 6, 6, 6, 6, 6, 6, 6, 6, 6, 6, 6, 6, 6, 6, 6, 6, 6, 6, 6, 7, 7, 7, 7, 7, 7, 7, 7, 7, 7, 7, 7, 7, 7, 7, 7, 7, 7, 7, 7, 7, 7, 7, 7, 7, 7, 7, 7, 7, 7, 7, 7, 7, 7, 7, 7, 7, 7, 7, 7, 7, 7, 7, 7, 7, 7, 7, 7, 7, 7, 7, 7, 7, 7, 7, 7, 7, 7, 7, 7, 7, 7, 7, 7, 8, 8, 8, 8, 8, 8, 8, 8, 8, 8, 8, 8, 8, 8, 8, 8, 8, 8, 8, 8, 8, 8, 8, 8, 8, 8, 8, 8, 8, 8, 8, 8, 8, 8, 8, 8, 8, 8, 8, 8, 8, 8, 8, 8, 8, 8, 8, 8, 8, 8, 8, 8, 8, 8, 8, 8, 8, 8, 8, 8, 8, 8, 8, 8, 8, 8, 8, 8, 8, 8, 8, 8, 8, 8, 8, 8, 8, 8, 8, 8, 8, 8, 8, 8, 8, 8, 8, 8, 8, 8, 8, 8, 8, 8, 8, 8, 8, 8, 8, 8, 8, 8, 8, 8, 8, 8, 8, 8, 8, 8, 8, 8, 8, 8, 8, 8, 8, 8, 8, 8, 8, 8, 8, 8, 8, 8, 8, 8]))) (.leaf [(.o (.add .i64) (.i 32) (.u (.conv .i64) (.o .sidx (.s [0, 1, 2, 2, 3, 3, 3, 3, 4, 4, 4, 4, 4, 4, 4, 4, 5, 5, 5, 5, 5, 5, 5, 5, 5, 5, 5, 5, 5, 5, 5, 5, 6, 6, 6, 6, 6, 6, 6, 6, 6, 6, 6, 6, 6, 6, 6, 6, 6, 6, 6, 6, 6, 6, 6, 6, 6, 6, 6, 6, 6, 6, 6, 6, 7, 7, 7, 7, 7, 7, 7, 7, 7, 7, 7, 7, 7, 7, 7, 7, 7, 7, 7, 7, 7, 7, 7, 7, 7, 7, 7, 7, 7, 7, 7, 7, 7, 7, 7, 7, 7, 7, 7, 7, 7, 7, 7, 7, 7, 7, 7, 7, 7, 7, 7, 7, 7, 7, 7, 7, 7, 7, 7, 7, 7, 7, 7, 7, 8, 8, 8, 8, 8, 8, 8, 8, 8, 8, 8, 8, 8, 8, 8, 8, 8, 8, 8, 8, 8, 8, 8, 8, 8, 8, 8, 8, 8, 8, 8, 8, 8, 8, 8, 8, 8, 8, 8, 8, 8, 8, 8, 8, 8, 8, 8, 8, 8, 8, 8, 8, 8, 8, 8, 8, 8, 8, 8, 8, 8, 8, 8, 8, 8, 8, 8, 8, 8, 8, 8, 8, 8, 8, 8, 8, 8, 8, 8, 8, 8, 8, 8, 8, 8, 8, 8, 8, 8, 8, 8, 8, 8, 8, 8, 8, 8, 8, 8, 8, 8, 8, 8, 8, 8, 8, 8, 8, 8, 8, 8, 8, 8, 8, 8, 8, 8, 8, 8, 8, 8, 8, 8, 8, 8, 8, 8, 8]) (.u (.conv .u8) (.o (.shr .u64) (.v 0) (.i 32))))))])))))
 (.ite (.o .le (.i 65536) (.v 0))
 (.ite (.o .le (.i 256) (.o (.shr .u64) (.v 0) (.i 16)))
 (.need (.o .le (.i 0) (.u (.conv .u8) (.o (.shr .u64) (.o (.shr .u64) (.v 0) (.i 16)) (.i 8)))) (.need (.o .lt (.u (.conv .u8) (.o (.shr .u64) (.o (.shr .u64) (.v 0) (.i 16)) (.i 8))) (.u .slen (.s [0, 1, 2, 2, 3, 3, 3, 3, 4, 4, 4, 4, 4, 4, 4, 4, 5, 5, 5, 5, 5, 5, 5, 5, 5, 5, 5, 5, 5, 5, 5, 5, 6, 6, 6, 6, 6, 6, 6, 6, 6, 6, 6, 6, 6, 6, 6, 6, 6, 6, 6, 6, 6, 6, 6, 6, 6, 6, 6, 6, 6, 6, 6, 6, 7, 7, 7, 7, 7, 7, 7, 7, 7, 7, 7, 7, 7, 7, 7, 7, 7, 7, 7, 7, 7, 7, 7, 7, 7, 7, 7, 7, 7, 7, 7, 7, 7, 7, 7, 7, 7, 7, 7, 7, 7, 7, 7, 7, 7, 7, 7, 7, 7, 7, 7, 7, 7, 7, 7, 7, 7, 7, 7, 7, 7, 7, 7, 7, 8, 8, 8, 8, 8, 8, 8, 8, 8, 8, 8, 8, 8, 8, 8, 8, 8, 8, 8, 8, 8, 8, 8, 8, 8, 8, 8, 8, 8, 8, 8, 8, 8, 8, 8, 8, 8, 8, 8, 8, 8, 8, 8, 8, 8, 8, 8, 8, 8, 8, 8, 8, 8, 8, 8, 8, 8, 8, 8, 8, 8, 8, 8, 8, 8, 8, 8, 8, 8, 8, 8, 8, 8, 8, 8, 8, 8, 8, 8, 8, 8, 8, 8, 8, 8, 8, 8, 8, 8, 8, 8, 8, 8, 8, 8, 8, 8, 8, 8, 8, 8, 8, 8, 8, 8, 8, 8, 8, 8, 8, 8, 8, 8, 8, 8, 8, 8, 8, 8, 8, 8, 8, 8, 8, 8, 8, 8, 8]))) (.leaf [(.o (.add .i64) (.i 24) (.u (.conv .i64) (.o .sidx (.s [0, 1, 2, 2, 3, 3, 3, 3, 4, 4, 4, 4, 4, 4, 4, 4, 5, 5, 5, 5, 5, 5, 5, 5, 5, 5, 5, 5, 5, 5, 5, 5, 6, 6, 6, 6, 6, 6, 6, 6, 6, 6, 6, 6, 6, 6, 6, 6, 6, 6, 6, 6, 6, 6, 6, 6, 6, 6, 6, 6, 6, 6, 6, 6, 7, 7, 7, 7, 7, 7, 7, 7, 7, 7, 7, 7, 7, 7, 7, 7, 7, 7, 7, 7, 7, 7, 7, 7, 7, 7, 7, 7, 7, 7, 7, 7, 7, 7, 7, 7, 7, 7, 7, 7, 7, 7, 7, 7, 7, 7, 7, 7, 7, 7, 7, 7, 7, 7, 7, 7, 7, 7, 7, 7, 7, 7, 7, 7, 8, 8, 8, 8, 8, 8, 8, 8, 8, 8, 8, 8, 8, 8, 8, 8, 8, 8, 8, 8, 8, 8, 8, 8, 8, 8, 8, 8, 8, 8, 8, 8, 8, 8, 8, 8, 8, 8, 8, 8, 8, 8, 8, 8, 8, 8, 8, 8, 8, 8, 8, 8, 8, 8, 8, 8, 8, 8, 8, 8, 8, 8, 8, 8, 8, 8, 8, 8, 8, 8, 8, 8, 8, 8, 8, 8, 8, 8, 8, 8, 8, 8, 8, 8, 8, 8, 8, 8, 8, 8, 8, 8, 8, 8, 8, 8, 8, 8, 8, 8, 8, 8, 8, 8, 8, 8, 8, 8, 8, 8, 8, 8, 8, 8, 8, 8, 8, 8, 8, 8, 8, 8, 8, 8, 8, 8, 8, 8]) (.u (.conv .u8) (.o (.shr .u64) (.o (.shr .u64) (.v 0) (.i 16)) (.i 8))))))])))
 (.need (.o .le (.i 0) (.u (.conv .u8) (.o (.shr .u64) (.v 0) (.i 16)))) (.need (.o .lt (.u (.conv .u8) (.o (.shr .u64) (.v 0) (.i 16))) (.u .slen (.s [0, 1, 2, 2, 3, 3, 3, 3, 4, 4, 4, 4, 4, 4, 4, 4, 5, 5, 5, 5, 5, 5, 5, 5, 5, 5, 5, 5, 5, 5, 5, 5, 6, 6, 6, 6, 6, 6, 6, 6, 6, 6, 6, 6, 6, 6, 6, 6, 6, 6, 6, 6, 6, 6, 6, 6, 6, 6, 6, 6, 6, 6, 6, 6, 7, 7, 7, 7, 7, 7, 7, 7, 7, 7, 7, 7, 7, 7, 7, 7, 7, 7, 7, 7, 7, 7, 7, 7, 7, 7, 7, 7, 7, 7, 7, 7, 7, 7, 7, 7, 7, 7, 7, 7, 7, 7, 7, 7, 7, 7, 7, 7, 7, 7, 7, 7, 7, 7, 7, 7, 7, 7, 7, 7, 7, 7, 7, 7, 8, 8, 8, 8, 8, 8, 8, 8, 8, 8, 8, 8, 8, 8, 8, 8, 8, 8, 8, 8, 8, 8, 8, 8, 8, 8, 8, 8, 8, 8, 8, 8, 8, 8, 8, 8, 8, 8, 8, 8, 8, 8, 8, 8, 8, 8, 8, 8, 8, 8, 8, 8, 8, 8, 8, 8, 8, 8, 8, 8, 8, 8, 8, 8, 8, 8, 8, 8, 8, 8, 8, 8, 8, 8, 8, 8, 8, 8, 8, 8, 8, 8, 8, 8, 8, 8, 8, 8, 8, 8, 8, 8, 8, 8, 8, 8, 8, 8, 8, 8, 8, 8, 8, 8, 8, 8, 8, 8, 8, 8, 8, 8, 8, 8, 8, 8, 8, 8, 8, 8, 8, 8, 8, 8, 8, 8, 8, 8]))) (.leaf [(.o (.add .i64) (.i 16) (.u (.conv .i64) (.o .sidx (.s [0, 1, 2, 2, 3, 3, 3, 3, 4, 4, 4, 4, 4, 4, 4, 4, 5, 5, 5, 5, 5, 5, 5, 5, 5, 5, 5, 5, 5, 5, 5, 5, 6, 6, 6, 6, 6, 6, 6, 6, 6, 6, 6, 6, 6, 6, 6, 6, 6, 6, 6, 6, 6, 6, 6, 6, 6, 6, 6, 6, 6, 6, 6, 6, 7, 7, 7, 7, 7, 7, 7, 7, 7, 7, 7, 7, 7, 7, 7, 7, 7, 7, 7, 7, 7, 7, 7, 7, 7, 7, 7, 7, 7, 7, 7, 7, 7, 7, 7, 7, 7, 7, 7, 7, 7, 7, 7, 7, 7, 7, 7, 7, 7, 7, 7, 7, 7, 7, 7, 7, 7, 7, 7, 7, 7, 7, 7, 7, 8, 8, 8, 8, 8, 8, 8, 8, 8, 8, 8, 8, 8, 8, 8, 8, 8, 8, 8, 8, 8, 8, 8, 8, 8, 8, 8, 8, 8, 8, 8, 8, 8, 8, 8, 8, 8, 8, 8, 8, 8, 8, 8, 8, 8, 8, 8, 8, 8, 8, 8, 8, 8, 8, 8, 8, 8, 8, 8, 8, 8, 8, 8, 8, 8, 8, 8, 8, 8, 8, 8, 8, 8, 8, 8, 8, 8, 8, 8, 8, 8, 8, 8, 8, 8, 8, 8, 8, 8, 8, 8, 8, 8, 8, 8, 8, 8, 8, 8, 8, 8, 8, 8, 8, 8, 8, 8, 8, 8, 8, 8, 8, 8, 8, 8, 8, 8, 8, 8, 8, 8, 8, 8, 8, 8, 8, 8, 8]) (.u (.conv .u8) (.o (.shr .u64) (.v 0) (.i 16))))))]))))
 (.ite (.o .le (.i 256) (.v 0))
 (.need (.o .le (.i 0) (.u (.conv .u8) (.o (.shr .u64) (.v 0) (.i 8)))) (.need (.o .lt (.u (.conv .u8) (.o (.shr .u64) (.v 0) (.i 8))) (.u .slen (.s [0, 1, 2, 2, 3, 3, 3, 3, 4, 4, 4, 4, 4, 4, 4, 4, 5, 5, 5, 5, 5, 5, 5, 5, 5, 5, 5, 5, 5, 5, 5, 5, 6, 6, 6, 6, 6, 6, 6, 6, 6, 6, 6, 6, 6, 6, 6, 6, 6, 6, 6, 6, 6, 6, 6, 6, 6, 6, 6, 6, 6, 6, 6, 6, 7, 7, 7, 7, 7, 7, 7, 7, 7, 7, 7, 7, 7, 7, 7, 7, 7, 7, 7, 7, 7, 7, 7, 7, 7, 7, 7, 7, 7, 7, 7, 7, 7, 7, 7, 7, 7, 7, 7, 7, 7, 7, 7, 7, 7, 7, 7, 7, 7, 7, 7, 7, 7, 7, 7, 7, 7, 7, 7, 7, 7, 7, 7, 7, 8, 8, 8, 8, 8, 8, 8, 8, 8, 8, 8, 8, 8, 8, 8, 8, 8, 8, 8, 8, 8, 8, 8, 8, 8, 8, 8, 8, 8, 8, 8, 8, 8, 8, 8, 8, 8, 8, 8, 8, 8, 8, 8, 8, 8, 8, 8, 8, 8, 8, 8, 8, 8, 8, 8, 8, 8, 8, 8, 8, 8, 8, 8, 8, 8, 8, 8, 8, 8, 8, 8, 8, 8, 8, 8, 8, 8, 8, 8, 8, 8, 8, 8, 8, 8, 8, 8, 8, 8, 8, 8, 8, 8, 8, 8, 8, 8, 8, 8, 8, 8, 8, 8, 8, 8, 8, 8, 8, 8, 8, 8, 8, 8, 8, 8, 8, 8, 8, 8, 8, 8, 8, 8, 8, 8, 8, 8, 8]))) (.leaf [(.o (.add .i64) (.i 8) (.u (.conv .i64) (.o .sidx (.s [0, 1, 2, 2, 3, 3, 3, 3, 4, 4, 4, 4, 4, 4, 4, 4, 5, 5, 5, 5, 5, 5, 5, 5, 5, 5, 5, 5, 5, 5, 5, 5, 6, 6, 6, 6, 6, 6, 6, 6, 6, 6, 6, 6, 6, 6, 6, 6, 6, 6, 6, 6, 6, 6, 6, 6, 6, 6, 6, 6, 6, 6, 6, 6, 7, 7, 7, 7, 7, 7, 7, 7, 7, 7, 7, 7, 7, 7, 7, 7, 7, 7, 7, 7, 7, 7, 7, 7, 7, 7, 7, 7, 7, 7, 7, 7, 7, 7, 7, 7, 7, 7, 7, 7, 7, 7, 7, 7, 7, 7, 7, 7, 7, 7, 7, 7, 7, 7, 7, 7, 7, 7, 7, 7, 7, 7, 7, 7, 8, 8, 8, 8, 8, 8, 8, 8, 8, 8, 8, 8, 8, 8, 8, 8, 8, 8, 8, 8, 8, 8, 8, 8, 8, 8, 8, 8, 8, 8, 8, 8, 8, 8, 8, 8, 8, 8, 8, 8, 8, 8, 8, 8, 8, 8, 8, 8, 8, 8, 8, 8, 8, 8, 8, 8, 8, 8, 8, 8, 8, 8, 8, 8, 8, 8, 8, 8, 8, 8, 8, 8, 8, 8, 8, 8, 8, 8, 8, 8, 8, 8, 8, 8, 8, 8, 8, 8, 8, 8, 8, 8, 8, 8, 8, 8, 8, 8, 8, 8, 8, 8, 8, 8, 8, 8, 8, 8, 8, 8, 8, 8, 8, 8, 8, 8, 8, 8, 8, 8, 8, 8, 8, 8, 8, 8, 8, 8]) (.u (.conv .u8) (.o (.shr .u64) (.v 0) (.i 8))))))])))
 (.need (.o .le (.i 0) (.u (.conv .u8) (.v 0))) (.need (.o .lt (.u (.conv .u8) (.v 0)) (.u .slen (.s [0, 1, 2, 2, 3, 3, 3, 3, 4, 4, 4, 4, 4, 4, 4, 4, 5, 5, 5, 5, 5, 5, 5, 5, 5, 5, 5, 5, 5, 5, 5, 5, 6, 6, 6, 6, 6, 6, 6, 6, 6, 6, 6, 6, 6, 6, 6, 6, 6, 6, 6, 6, 6, 6, 6, 6, 6, 6, 6, 6, 6, 6, 6, 6, 7, 7, 7, 7, 7, 7, 7, 7, 7, 7, 7, 7, 7, 7, 7, 7, 7, 7, 7, 7, 7, 7, 7, 7, 7, 7, 7, 7, 7, 7, 7, 7, 7, 7, 7, 7, 7, 7, 7, 7, 7, 7, 7, 7, 7, 7, 7, 7, 7, 7, 7, 7, 7, 7, 7, 7, 7, 7, 7, 7, 7, 7, 7, 7, 8, 8, 8, 8, 8, 8, 8, 8, 8, 8, 8, 8, 8, 8, 8, 8, 8, 8, 8, 8, 8, 8, 8, 8, 8, 8, 8, 8, 8, 8, 8, 8, 8, 8, 8, 8, 8, 8, 8, 8, 8, 8, 8, 8, 8, 8, 8, 8, 8, 8, 8, 8, 8, 8, 8, 8, 8, 8, 8, 8, 8, 8, 8, 8, 8, 8, 8, 8, 8, 8, 8, 8, 8, 8, 8, 8, 8, 8, 8, 8, 8, 8, 8, 8, 8, 8, 8, 8, 8, 8, 8, 8, 8, 8, 8, 8, 8, 8, 8, 8, 8, 8, 8, 8, 8, 8, 8, 8, 8, 8, 8, 8, 8, 8, 8, 8, 8, 8, 8, 8, 8, 8, 8, 8, 8, 8, 8, 8]))) (.leaf [(.o (.add .i64) (.i 0) (.u (.conv .i64) (.o .sidx (.s [0, 1, 2, 2, 3, 3, 3, 3, 4, 4, 4, 4, 4, 4, 4, 4, 5, 5, 5, 5, 5, 5, 5, 5, 5, 5, 5, 5, 5, 5, 5, 5, 6, 6, 6, 6, 6, 6, 6, 6, 6, 6, 6, 6, 6, 6, 6, 6, 6, 6, 6, 6, 6, 6, 6, 6, 6, 6, 6, 6, 6, 6, 6, 6, 7, 7, 7, 7, 7, 7, 7, 7, 7, 7, 7, 7, 7, 7, 7, 7, 7, 7, 7, 7, 7, 7, 7, 7, 7, 7, 7, 7, 7, 7, 7, 7, 7, 7, 7, 7, 7, 7, 7, 7, 7, 7, 7, 7, 7, 7, 7, 7, 7, 7, 7, 7, 7, 7, 7, 7, 7, 7, 7, 7, 7, 7, 7, 7, 8, 8, 8, 8, 8, 8, 8, 8, 8, 8, 8, 8, 8, 8, 8, 8, 8, 8, 8, 8, 8, 8, 8, 8, 8, 8, 8, 8, 8, 8, 8, 8, 8, 8, 8, 8, 8, 8, 8, 8, 8, 8, 8, 8, 8, 8, 8, 8, 8, 8, 8, 8, 8, 8, 8, 8, 8, 8, 8, 8, 8, 8, 8, 8, 8, 8, 8, 8, 8, 8, 8, 8, 8, 8, 8, 8, 8, 8, 8, 8, 8, 8, 8, 8, 8, 8, 8, 8, 8, 8, 8, 8, 8, 8, 8, 8, 8, 8, 8, 8, 8, 8, 8, 8, 8, 8, 8, 8, 8, 8, 8, 8, 8, 8, 8, 8, 8, 8, 8, 8, 8, 8, 8, 8, 8, 8, 8, 8]) (.u (.conv .u8) (.v 0)))))]))))))
noncomputable def k_bits_Len64 : Known Try.prog := known mixedOk [] (by decide) [] plTypes plOk inFuncs insOk 6 ⟨61, [(.a (.ck (.int .u64)))], (.c (.a (.ck (.int .i64))))⟩ (fun args w => Try.call61 args w) tk_bits_Len64 (by kernel_rfl)
theorem k_bits_Len64_f : k_bits_Len64.con.f = 61 := rfl
theorem k_bits_Len64_F (l : List Sc) : k_bits_Len64.F l = if l.length = 1 then tk_bits_Len64.den (gam (P := Try.prog) []) l [] else none := rfl
def tk_frac_Of : T (List Ex) :=
 (.ite (.o .eq (.v 1) (.i 0))
 (.leaf [(.i 0), (.i 0), (.b false)])
 (.call 36 [(.v 0)] 1
 (.call 36 [(.v 1)] 1
 (.call 35 [(.v 2), (.v 3)] 1
 (.call 36 [(.v 0)] 1
 (.need (.o .ne (.v 4) (.i 0)) (.call 36 [(.v 1)] 1
 (.need (.o .ne (.v 4) (.i 0)) (.call 37 [(.u .not (.o .beq (.o .lt (.v 0) (.i 0)) (.o .lt (.v 1) (.i 0)))), (.o (.quo .u64) (.v 5) (.v 4)), (.o (.quo .u64) (.v 6) (.v 4))] 3
 (.leaf [(.v 7), (.v 8), (.v 9)]))))))))))
noncomputable def k_frac_Of : Known Try.prog := known mixedOk [k_frac_size, k_frac_gcd, k_frac_made] (by decide) [] plTypes plOk inFuncs insOk 6 ⟨27, [(.a (.ck (.int .i64))), (.a (.ck (.int .i64)))], (.t [(.g [(.ck (.int .i64)), (.ck (.int .i64))]), (.a (.ck .bool))])⟩ (fun args w => Try.call27 args w) tk_frac_Of (by kernel_rfl)
theorem k_frac_Of_f : k_frac_Of.con.f = 27 := rfl
theorem k_frac_Of_F (l : List Sc) : k_frac_Of.F l = if l.length = 2 then tk_frac_Of.den (gam (P := Try.prog) [k_frac_size, k_frac_gcd, k_frac_made]) l [] else none := rfl
def tk_tally_Check : T (List Ex) :=
 (.ite (.o .and (.o .eq (.v 0) (.i 0)) (.o .and (.o .eq (.v 1) (.i 0)) (.o .and (.o .eq (.v 2) (.i 0)) (.o .and (.o .eq (.v 3) (.i 0)) (.o .and (.o .eq (.v 4) (.i 0)) (.b true))))))
 (.leaf [(.i 0)])
 (.ite (.o .lt (.v 0) (.i 1))
 (.leaf [(.i 2)])
 (.ite (.o .lt (.i 2000) (.v 0))
 (.leaf [(.i 2)])
 (.call 38 [(.v 3)] 1
 (.ite (.u .not (.v 5))
 (.leaf [(.i 2)])
 (.call 38 [(.v 4)] 1
 (.ite (.u .not (.v 6))
 (.leaf [(.i 2)])
 (.ite (.o .lt (.v 4) (.v 3))
 (.leaf [(.i 2)])
 (.ite (.o .eq (.v 0) (.i 1))
 (.ite (.o .lt (.v 1) (.o (.mul .i64) (.v 0) (.v 3)))
 (.leaf [(.i 8)])
 (.ite (.o .lt (.o (.mul .i64) (.v 0) (.v 4)) (.v 1))
 (.ite (.o .lt (.o (.mul .i64) (.v 0) (.v 4)) (.v 1))
 (.leaf [(.i 8)])
 (.ite (.o .lt (.v 2) (.o (.mul .i64) (.v 4) (.v 4)))
 (.leaf [(.i 8)])
 (.ite (.o .lt (.o (.mul .i64) (.v 0) (.o .max (.o (.mul .i64) (.v 3) (.v 3)) (.o (.mul .i64) (.v 4) (.v 4)))) (.v 2))
 (.ite (.o .lt (.o (.mul .i64) (.v 0) (.o .max (.o (.mul .i64) (.v 3) (.v 3)) (.o (.mul .i64) (.v 4) (.v 4)))) (.v 2))
 (.leaf [(.i 8)])
 (.leaf [(.i 0)]))
 (.ite (.o .lt (.o (.mul .i64) (.v 0) (.v 2)) (.o (.mul .i64) (.v 1) (.v 1)))
 (.leaf [(.i 8)])
 (.leaf [(.i 0)])))))
 (.ite (.o .eq (.v 0) (.i 1))
 (.ite (.o .ne (.v 3) (.v 4))
 (.leaf [(.i 8)])
 (.ite (.o .lt (.v 2) (.o (.mul .i64) (.v 4) (.v 4)))
 (.leaf [(.i 8)])
 (.ite (.o .lt (.o (.mul .i64) (.v 0) (.o .max (.o (.mul .i64) (.v 3) (.v 3)) (.o (.mul .i64) (.v 4) (.v 4)))) (.v 2))
 (.ite (.o .lt (.o (.mul .i64) (.v 0) (.o .max (.o (.mul .i64) (.v 3) (.v 3)) (.o (.mul .i64) (.v 4) (.v 4)))) (.v 2))
 (.leaf [(.i 8)])
 (.leaf [(.i 0)]))
 (.ite (.o .lt (.o (.mul .i64) (.v 0) (.v 2)) (.o (.mul .i64) (.v 1) (.v 1)))
 (.leaf [(.i 8)])
 (.leaf [(.i 0)])))))
 (.ite (.o .lt (.v 2) (.o (.mul .i64) (.v 4) (.v 4)))
 (.leaf [(.i 8)])
 (.ite (.o .lt (.o (.mul .i64) (.v 0) (.o .max (.o (.mul .i64) (.v 3) (.v 3)) (.o (.mul .i64) (.v 4) (.v 4)))) (.v 2))
 (.ite (.o .lt (.o (.mul .i64) (.v 0) (.o .max (.o (.mul .i64) (.v 3) (.v 3)) (.o (.mul .i64) (.v 4) (.v 4)))) (.v 2))
 (.leaf [(.i 8)])
 (.leaf [(.i 0)]))
 (.ite (.o .lt (.o (.mul .i64) (.v 0) (.v 2)) (.o (.mul .i64) (.v 1) (.v 1)))
 (.leaf [(.i 8)])
 (.leaf [(.i 0)])))))))
 (.ite (.o .lt (.v 1) (.o (.mul .i64) (.v 0) (.v 3)))
 (.leaf [(.i 8)])
 (.ite (.o .lt (.o (.mul .i64) (.v 0) (.v 4)) (.v 1))
 (.ite (.o .lt (.o (.mul .i64) (.v 0) (.v 4)) (.v 1))
 (.leaf [(.i 8)])
 (.ite (.o .lt (.v 2) (.o (.add .i64) (.o (.mul .i64) (.v 3) (.v 3)) (.o (.mul .i64) (.v 4) (.v 4))))
 (.leaf [(.i 8)])
 (.ite (.o .lt (.o (.mul .i64) (.v 0) (.o .max (.o (.mul .i64) (.v 3) (.v 3)) (.o (.mul .i64) (.v 4) (.v 4)))) (.v 2))
 (.ite (.o .lt (.o (.mul .i64) (.v 0) (.o .max (.o (.mul .i64) (.v 3) (.v 3)) (.o (.mul .i64) (.v 4) (.v 4)))) (.v 2))
 (.leaf [(.i 8)])
 (.leaf [(.i 0)]))
 (.ite (.o .lt (.o (.mul .i64) (.v 0) (.v 2)) (.o (.mul .i64) (.v 1) (.v 1)))
 (.leaf [(.i 8)])
 (.leaf [(.i 0)])))))
 (.ite (.o .eq (.v 0) (.i 1))
 (.ite (.o .ne (.v 3) (.v 4))
 (.leaf [(.i 8)])
 (.ite (.o .lt (.v 2) (.o (.add .i64) (.o (.mul .i64) (.v 3) (.v 3)) (.o (.mul .i64) (.v 4) (.v 4))))
 (.leaf [(.i 8)])
 (.ite (.o .lt (.o (.mul .i64) (.v 0) (.o .max (.o (.mul .i64) (.v 3) (.v 3)) (.o (.mul .i64) (.v 4) (.v 4)))) (.v 2))
 (.ite (.o .lt (.o (.mul .i64) (.v 0) (.o .max (.o (.mul .i64) (.v 3) (.v 3)) (.o (.mul .i64) (.v 4) (.v 4)))) (.v 2))
 (.leaf [(.i 8)])
 (.leaf [(.i 0)]))
 (.ite (.o .lt (.o (.mul .i64) (.v 0) (.v 2)) (.o (.mul .i64) (.v 1) (.v 1)))
 (.leaf [(.i 8)])
 (.leaf [(.i 0)])))))
 (.ite (.o .lt (.v 2) (.o (.add .i64) (.o (.mul .i64) (.v 3) (.v 3)) (.o (.mul .i64) (.v 4) (.v 4))))
 (.leaf [(.i 8)])
 (.ite (.o .lt (.o (.mul .i64) (.v 0) (.o .max (.o (.mul .i64) (.v 3) (.v 3)) (.o (.mul .i64) (.v 4) (.v 4)))) (.v 2))
 (.ite (.o .lt (.o (.mul .i64) (.v 0) (.o .max (.o (.mul .i64) (.v 3) (.v 3)) (.o (.mul .i64) (.v 4) (.v 4)))) (.v 2))
 (.leaf [(.i 8)])
 (.leaf [(.i 0)]))
 (.ite (.o .lt (.o (.mul .i64) (.v 0) (.v 2)) (.o (.mul .i64) (.v 1) (.v 1)))
 (.leaf [(.i 8)])
 (.leaf [(.i 0)]))))))))))))))))
noncomputable def k_tally_Check : Known Try.prog := known mixedOk [k_tally_value] (by decide) [] plTypes plOk inFuncs insOk 6 ⟨30, [(.g [(.ck (.int .i64)), (.ck (.int .i64)), (.ck (.int .i64)), (.ck (.int .i64)), (.ck (.int .i64))])], (.c (.a (.ck (.int .i64))))⟩ (fun args w => Try.call30 args w) tk_tally_Check (by kernel_rfl)
theorem k_tally_Check_f : k_tally_Check.con.f = 30 := rfl
theorem k_tally_Check_F (l : List Sc) : k_tally_Check.F l = if l.length = 5 then tk_tally_Check.den (gam (P := Try.prog) [k_tally_value]) l [] else none := rfl
def tk_frac_signed : T (List Ex) :=
 (.ite (.o .beq (.v 0) (.v 3))
 (.call 50 [(.v 1), (.v 2), (.v 4), (.v 5)] 2
 (.leaf [(.v 0), (.v 6), (.v 7)]))
 (.call 51 [(.v 1), (.v 2), (.v 4), (.v 5)] 3
 (.leaf [(.u .not (.o .beq (.v 0) (.v 8))), (.v 6), (.v 7)])))
noncomputable def k_frac_signed : Known Try.prog := known mixedOk [k_frac_wide_plus, k_frac_wide_minus] (by decide) [] plTypes plOk inFuncs insOk 6 ⟨41, [(.a (.ck .bool)), (.g [(.ck (.int .u64)), (.ck (.int .u64))]), (.a (.ck .bool)), (.g [(.ck (.int .u64)), (.ck (.int .u64))])], (.t [(.a (.ck .bool)), (.g [(.ck (.int .u64)), (.ck (.int .u64))])])⟩ (fun args w => Try.call41 args w) tk_frac_signed (by kernel_rfl)
theorem k_frac_signed_f : k_frac_signed.con.f = 41 := rfl
theorem k_frac_signed_F (l : List Sc) : k_frac_signed.F l = if l.length = 6 then tk_frac_signed.den (gam (P := Try.prog) [k_frac_wide_plus, k_frac_wide_minus]) l [] else none := rfl
def tk_frac_times : T (List Ex) :=
 (.call 52 [(.v 0), (.v 1)] 2
 (.leaf [(.v 2), (.v 3)]))
noncomputable def k_frac_times : Known Try.prog := known mixedOk [k_bits_Mul64] (by decide) [] plTypes plOk inFuncs insOk 6 ⟨42, [(.a (.ck (.int .u64))), (.a (.ck (.int .u64)))], (.c (.g [(.ck (.int .u64)), (.ck (.int .u64))]))⟩ (fun args w => Try.call42 args w) tk_frac_times (by kernel_rfl)
theorem k_frac_times_f : k_frac_times.con.f = 42 := rfl
theorem k_frac_times_F (l : List Sc) : k_frac_times.F l = if l.length = 2 then tk_frac_times.den (gam (P := Try.prog) [k_bits_Mul64]) l [] else none := rfl
def tk_simulatorref02_Divide : T (List Ex) :=
 (.loop [(.i 127), (.i 0), (.i 0), (.i 0), (.i 0)]
 (.ite (.o .le (.i 0) (.v 4))
 (.call 54 [(.v 5), (.v 6), (.v 5), (.v 6)] 2
 (.call 54 [(.v 7), (.v 8), (.v 7), (.v 8)] 2
 (.call 55 [(.v 0), (.v 1), (.v 4)] 1
 (.call 54 [(.v 11), (.v 12), (.i 0), (.v 13)] 2
 (.call 56 [(.v 14), (.v 15), (.v 2), (.v 3)] 1
 (.ite (.u .not (.v 16))
 (.call 57 [(.v 14), (.v 15), (.v 2), (.v 3)] 2
 (.next 0 [(.o (.sub .i64) (.v 4) (.i 1)), (.v 9), (.o (.add .u64) (.v 10) (.i 1)), (.v 17), (.v 18)]))
 (.next 0 [(.o (.sub .i64) (.v 4) (.i 1)), (.v 9), (.v 10), (.v 14), (.v 15)])))))))
 (.leaf [(.v 5), (.v 6), (.v 7), (.v 8)])))
noncomputable def k_simulatorref02_Divide : Known Try.prog := known mixedOk [k_simulatorref02_Plus, k_simulatorref02_bit, k_simulatorref02_Less, k_simulatorref02_Minus] (by decide) [⟨4600003, [(8, 0)], [11, 12, 15, 16, 17, 18, 19, 20, 21, 22, 23, 24, 25, 26, 27, 28, 29, 30, 31, 32, 33, 34, 35, 36, 13, 14], [(4, (0, 0)), (4, (1, 0)), (5, (0, 0)), (5, (1, 0))], []⟩] plTypes plOk inFuncs insOk 6 ⟨46, [(.g [(.ck (.int .u64)), (.ck (.int .u64))]), (.g [(.ck (.int .u64)), (.ck (.int .u64))])], (.t [(.g [(.ck (.int .u64)), (.ck (.int .u64))]), (.g [(.ck (.int .u64)), (.ck (.int .u64))])])⟩ (fun args w => Try.call46 args w) tk_simulatorref02_Divide (by kernel_rfl)
theorem k_simulatorref02_Divide_f : k_simulatorref02_Divide.con.f = 46 := rfl
theorem k_simulatorref02_Divide_F (l : List Sc) : k_simulatorref02_Divide.F l = if l.length = 4 then tk_simulatorref02_Divide.den (gam (P := Try.prog) [k_simulatorref02_Plus, k_simulatorref02_bit, k_simulatorref02_Less, k_simulatorref02_Minus]) l [] else none := rfl
def tk_simulatorref27_Check : T (List Ex) :=
 (.ite (.o .and (.o .eq (.v 0) (.i 0)) (.o .and (.o .eq (.v 1) (.i 0)) (.o .and (.o .eq (.v 2) (.i 0)) (.o .and (.o .eq (.v 3) (.i 0)) (.o .and (.o .eq (.v 4) (.i 0)) (.b true))))))
 (.leaf [(.i 0)])
 (.ite (.o .lt (.v 0) (.i 1))
 (.leaf [(.i 2)])
 (.ite (.o .lt (.i 2000) (.v 0))
 (.leaf [(.i 2)])
 (.call 28 [(.v 3)] 1
 (.ite (.u .not (.v 5))
 (.leaf [(.i 2)])
 (.call 28 [(.v 4)] 1
 (.ite (.u .not (.v 6))
 (.leaf [(.i 2)])
 (.ite (.o .lt (.v 4) (.v 3))
 (.leaf [(.i 2)])
 (.ite (.o .lt (.v 1) (.o (.mul .i64) (.v 0) (.v 3)))
 (.leaf [(.i 8)])
 (.ite (.o .lt (.o (.mul .i64) (.v 0) (.v 4)) (.v 1))
 (.leaf [(.i 8)])
 (.ite (.o .lt (.v 2) (.i 0))
 (.leaf [(.i 8)])
 (.call 49 [(.o (.mul .i64) (.v 3) (.v 3)), (.o (.mul .i64) (.v 4) (.v 4))] 1
 (.ite (.o .lt (.o (.mul .i64) (.v 0) (.v 7)) (.v 2))
 (.leaf [(.i 8)])
 (.ite (.o .lt (.o (.mul .i64) (.v 0) (.v 2)) (.o (.mul .i64) (.v 1) (.v 1)))
 (.leaf [(.i 8)])
 (.ite (.o .eq (.v 0) (.i 1))
 (.ite (.o .ne (.v 3) (.v 4))
 (.leaf [(.i 8)])
 (.ite (.o .lt (.i 1) (.v 0))
 (.ite (.o .lt (.v 2) (.o (.add .i64) (.o (.mul .i64) (.v 3) (.v 3)) (.o (.mul .i64) (.v 4) (.v 4))))
 (.leaf [(.i 8)])
 (.leaf [(.i 0)]))
 (.leaf [(.i 0)])))
 (.ite (.o .lt (.i 1) (.v 0))
 (.ite (.o .lt (.v 2) (.o (.add .i64) (.o (.mul .i64) (.v 3) (.v 3)) (.o (.mul .i64) (.v 4) (.v 4))))
 (.leaf [(.i 8)])
 (.leaf [(.i 0)]))
 (.leaf [(.i 0)])))))))))))))))))
noncomputable def k_simulatorref27_Check : Known Try.prog := known mixedOk [k_simulatorref27_Observation, k_simulatorref27_most] (by decide) [] plTypes plOk inFuncs insOk 6 ⟨47, [(.g [(.ck (.int .i64)), (.ck (.int .i64)), (.ck (.int .i64)), (.ck (.int .i64)), (.ck (.int .i64))])], (.c (.a (.ck (.int .i64))))⟩ (fun args w => Try.call47 args w) tk_simulatorref27_Check (by kernel_rfl)
theorem k_simulatorref27_Check_f : k_simulatorref27_Check.con.f = 47 := rfl
theorem k_simulatorref27_Check_F (l : List Sc) : k_simulatorref27_Check.F l = if l.length = 5 then tk_simulatorref27_Check.den (gam (P := Try.prog) [k_simulatorref27_Observation, k_simulatorref27_most]) l [] else none := rfl
def tk_bits_LeadingZeros64 : T (List Ex) :=
 (.call 61 [(.v 0)] 1
 (.leaf [(.o (.sub .i64) (.i 64) (.v 1))]))
noncomputable def k_bits_LeadingZeros64 : Known Try.prog := known mixedOk [k_bits_Len64] (by decide) [] plTypes plOk inFuncs insOk 6 ⟨60, [(.a (.ck (.int .u64)))], (.c (.a (.ck (.int .i64))))⟩ (fun args w => Try.call60 args w) tk_bits_LeadingZeros64 (by kernel_rfl)
theorem k_bits_LeadingZeros64_f : k_bits_LeadingZeros64.con.f = 60 := rfl
theorem k_bits_LeadingZeros64_F (l : List Sc) : k_bits_LeadingZeros64.F l = if l.length = 1 then tk_bits_LeadingZeros64.den (gam (P := Try.prog) [k_bits_Len64]) l [] else none := rfl
def tk_series_Moving : T (List Ex) :=
 (.ite (.o .lt (.v 1) (.i 1))
 (.leaf [.nil, (.i 2)])
 (.ite (.o .lt (.i 100) (.v 1))
 (.leaf [.nil, (.i 2)])
 (.ite (.o .lt (.i 2000) (.u .len (.v 0)))
 (.leaf [.nil, (.i 6)])
 (.loop [(.i 0), .nil, (.i 0)]
 (.ite (.o .lt (.v 4) (.u .len (.v 0)))
 (.need (.o .le (.i 0) (.v 4)) (.need (.o .lt (.v 4) (.u .len (.v 0))) (.ite (.o .lt (.o .idx (.v 0) (.v 4)) (.i (-1000000)))
 (.leaf [.nil, (.i 2)])
 (.ite (.o .lt (.i 1000000) (.o .idx (.v 0) (.v 4)))
 (.leaf [.nil, (.i 2)])
 (.ite (.o .le (.v 1) (.v 4))
 (.need (.o .le (.i 0) (.o (.sub .i64) (.v 4) (.v 1))) (.need (.o .lt (.o (.sub .i64) (.v 4) (.v 1)) (.u .len (.v 0))) (.ite (.o .le (.o (.sub .i64) (.v 1) (.i 1)) (.v 4))
 (.call 27 [(.o (.sub .i64) (.o (.add .i64) (.v 2) (.o .idx (.v 0) (.v 4))) (.o .idx (.v 0) (.o (.sub .i64) (.v 4) (.v 1)))), (.v 1)] 3
 (.need (.o .le (.u .len (.o .snoc (.v 3) (.o .cons (.v 5) (.o .cons (.v 6) .nil)))) (.i 8796093022208)) (.next 0 [(.o (.sub .i64) (.o (.add .i64) (.v 2) (.o .idx (.v 0) (.v 4))) (.o .idx (.v 0) (.o (.sub .i64) (.v 4) (.v 1)))), (.o .snoc (.v 3) (.o .cons (.v 5) (.o .cons (.v 6) .nil))), (.o (.add .i64) (.v 4) (.i 1))])))
 (.next 0 [(.o (.sub .i64) (.o (.add .i64) (.v 2) (.o .idx (.v 0) (.v 4))) (.o .idx (.v 0) (.o (.sub .i64) (.v 4) (.v 1)))), (.v 3), (.o (.add .i64) (.v 4) (.i 1))]))))
 (.ite (.o .le (.o (.sub .i64) (.v 1) (.i 1)) (.v 4))
 (.call 27 [(.o (.add .i64) (.v 2) (.o .idx (.v 0) (.v 4))), (.v 1)] 3
 (.need (.o .le (.u .len (.o .snoc (.v 3) (.o .cons (.v 5) (.o .cons (.v 6) .nil)))) (.i 8796093022208)) (.next 0 [(.o (.add .i64) (.v 2) (.o .idx (.v 0) (.v 4))), (.o .snoc (.v 3) (.o .cons (.v 5) (.o .cons (.v 6) .nil))), (.o (.add .i64) (.v 4) (.i 1))])))
 (.next 0 [(.o (.add .i64) (.v 2) (.o .idx (.v 0) (.v 4))), (.v 3), (.o (.add .i64) (.v 4) (.i 1))])))))))
 (.leaf [(.v 3), (.i 0)]))))))
noncomputable def k_series_Moving : Known Try.prog := known mixedOk [k_frac_Of] (by decide) [⟨1900008, [(7, 0), (6, 49), (25, 0)], [26, 27, 28, 29, 8, 9, 30, 31, 32, 33, 34, 35, 4, 5, 36, 37, 38, 39, 40, 41, 42, 43, 44, 45, 46, 47, 48, 49, 50, 51, 52, 53, 55, 56, 57, 54, 58, 59, 10, 11, 60, 61, 62, 63, 64], [], []⟩] plTypes plOk inFuncs insOk 6 ⟨19, [(.a (.row 3 [(.int .i64)] false)), (.a (.ck (.int .i64)))], (.t [(.a (.row 49 [(.int .i64), (.int .i64)] true)), (.a (.ck (.int .i64)))])⟩ (fun args w => Try.call19 args w) tk_series_Moving (by kernel_rfl)
theorem k_series_Moving_f : k_series_Moving.con.f = 19 := rfl
theorem k_series_Moving_F (l : List Sc) : k_series_Moving.F l = if l.length = 2 then tk_series_Moving.den (gam (P := Try.prog) [k_frac_Of]) l [] else none := rfl
def tk_tally_Mean : T (List Ex) :=
 (.ite (.o .eq (.v 0) (.i 0))
 (.leaf [(.i 0), (.i 0), (.b false)])
 (.call 30 [(.v 0), (.v 1), (.v 2), (.v 3), (.v 4)] 1
 (.ite (.o .ne (.v 5) (.i 0))
 (.leaf [(.i 0), (.i 0), (.b false)])
 (.call 27 [(.v 1), (.v 0)] 3
 (.leaf [(.v 6), (.v 7), (.v 8)])))))
noncomputable def k_tally_Mean : Known Try.prog := known mixedOk [k_tally_Check, k_frac_Of] (by decide) [] plTypes plOk inFuncs insOk 6 ⟨23, [(.g [(.ck (.int .i64)), (.ck (.int .i64)), (.ck (.int .i64)), (.ck (.int .i64)), (.ck (.int .i64))])], (.t [(.g [(.ck (.int .i64)), (.ck (.int .i64))]), (.a (.ck .bool))])⟩ (fun args w => Try.call23 args w) tk_tally_Mean (by kernel_rfl)
theorem k_tally_Mean_f : k_tally_Mean.con.f = 23 := rfl
theorem k_tally_Mean_F (l : List Sc) : k_tally_Mean.F l = if l.length = 5 then tk_tally_Mean.den (gam (P := Try.prog) [k_tally_Check, k_frac_Of]) l [] else none := rfl
def tk_tally_Add : T (List Ex) :=
 (.call 30 [(.v 0), (.v 1), (.v 2), (.v 3), (.v 4)] 1
 (.ite (.o .ne (.v 6) (.i 0))
 (.leaf [(.i 0), (.i 0), (.i 0), (.i 0), (.i 0), (.v 6)])
 (.call 38 [(.v 5)] 1
 (.ite (.u .not (.v 7))
 (.leaf [(.i 0), (.i 0), (.i 0), (.i 0), (.i 0), (.i 2)])
 (.ite (.o .le (.i 2000) (.v 0))
 (.leaf [(.i 0), (.i 0), (.i 0), (.i 0), (.i 0), (.i 13)])
 (.call 39 [(.v 0), (.v 1), (.v 2), (.v 3), (.v 4), (.i 1), (.v 5), (.o (.mul .i64) (.v 5) (.v 5)), (.v 5), (.v 5)] 5
 (.leaf [(.v 8), (.v 9), (.v 10), (.v 11), (.v 12), (.i 0)])))))))
noncomputable def k_tally_Add : Known Try.prog := known mixedOk [k_tally_Check, k_tally_value, k_tally_joined] (by decide) [] plTypes plOk inFuncs insOk 6 ⟨29, [(.g [(.ck (.int .i64)), (.ck (.int .i64)), (.ck (.int .i64)), (.ck (.int .i64)), (.ck (.int .i64))]), (.a (.ck (.int .i64)))], (.t [(.g [(.ck (.int .i64)), (.ck (.int .i64)), (.ck (.int .i64)), (.ck (.int .i64)), (.ck (.int .i64))]), (.a (.ck (.int .i64)))])⟩ (fun args w => Try.call29 args w) tk_tally_Add (by kernel_rfl)
theorem k_tally_Add_f : k_tally_Add.con.f = 29 := rfl
theorem k_tally_Add_F (l : List Sc) : k_tally_Add.F l = if l.length = 6 then tk_tally_Add.den (gam (P := Try.prog) [k_tally_Check, k_tally_value, k_tally_joined]) l [] else none := rfl
def tk_simulatorref27_Add : T (List Ex) :=
 (.call 47 [(.v 0), (.v 1), (.v 2), (.v 3), (.v 4)] 1
 (.ite (.o .ne (.v 6) (.i 0))
 (.leaf [(.i 0), (.i 0), (.i 0), (.i 0), (.i 0), (.v 6)])
 (.call 28 [(.v 5)] 1
 (.ite (.u .not (.v 7))
 (.leaf [(.i 0), (.i 0), (.i 0), (.i 0), (.i 0), (.i 2)])
 (.ite (.o .eq (.v 0) (.i 2000))
 (.leaf [(.i 0), (.i 0), (.i 0), (.i 0), (.i 0), (.i 13)])
 (.ite (.o .eq (.v 0) (.i 0))
 (.leaf [(.i 1), (.v 5), (.o (.mul .i64) (.v 5) (.v 5)), (.v 5), (.v 5), (.i 0)])
 (.call 48 [(.v 3), (.v 5)] 1
 (.call 49 [(.v 4), (.v 5)] 1
 (.leaf [(.o (.add .i64) (.v 0) (.i 1)), (.o (.add .i64) (.v 1) (.v 5)), (.o (.add .i64) (.v 2) (.o (.mul .i64) (.v 5) (.v 5))), (.v 8), (.v 9), (.i 0)])))))))))
noncomputable def k_simulatorref27_Add : Known Try.prog := known mixedOk [k_simulatorref27_Check, k_simulatorref27_Observation, k_simulatorref27_least, k_simulatorref27_most] (by decide) [] plTypes plOk inFuncs insOk 6 ⟨34, [(.g [(.ck (.int .i64)), (.ck (.int .i64)), (.ck (.int .i64)), (.ck (.int .i64)), (.ck (.int .i64))]), (.a (.ck (.int .i64)))], (.t [(.g [(.ck (.int .i64)), (.ck (.int .i64)), (.ck (.int .i64)), (.ck (.int .i64)), (.ck (.int .i64))]), (.a (.ck (.int .i64)))])⟩ (fun args w => Try.call34 args w) tk_simulatorref27_Add (by kernel_rfl)
theorem k_simulatorref27_Add_f : k_simulatorref27_Add.con.f = 34 := rfl
theorem k_simulatorref27_Add_F (l : List Sc) : k_simulatorref27_Add.F l = if l.length = 6 then tk_simulatorref27_Add.den (gam (P := Try.prog) [k_simulatorref27_Check, k_simulatorref27_Observation, k_simulatorref27_least, k_simulatorref27_most]) l [] else none := rfl
def tk_simulatorref02_common : T (List Ex) :=
 (.loop [(.v 0), (.v 1), (.v 2), (.v 3)]
 (.ite (.u .not (.o .and (.o .eq (.v 6) (.i 0)) (.o .and (.o .eq (.v 7) (.i 0)) (.b true))))
 (.call 46 [(.v 4), (.v 5), (.v 6), (.v 7)] 4
 (.next 0 [(.v 6), (.v 7), (.v 10), (.v 11)]))
 (.leaf [(.v 4), (.v 5)])))
noncomputable def k_simulatorref02_common : Known Try.prog := known mixedOk [k_simulatorref02_Divide] (by decide) [⟨4500001, [], [7, 8, 9, 11, 12, 13, 10, 14, 15, 5, 6, 16, 17], [(0, (0, 0)), (0, (1, 0)), (1, (0, 0)), (1, (1, 0))], []⟩] plTypes plOk inFuncs insOk 6 ⟨45, [(.g [(.ck (.int .u64)), (.ck (.int .u64))]), (.g [(.ck (.int .u64)), (.ck (.int .u64))])], (.c (.g [(.ck (.int .u64)), (.ck (.int .u64))]))⟩ (fun args w => Try.call45 args w) tk_simulatorref02_common (by kernel_rfl)
theorem k_simulatorref02_common_f : k_simulatorref02_common.con.f = 45 := rfl
theorem k_simulatorref02_common_F (l : List Sc) : k_simulatorref02_common.F l = if l.length = 4 then tk_simulatorref02_common.den (gam (P := Try.prog) [k_simulatorref02_Divide]) l [] else none := rfl
def tk_bits_Div64 : T (List Ex) :=
 (.ite (.o .eq (.v 2) (.i 0))
 (.fail "op")
 (.ite (.o .le (.v 2) (.v 0))
 (.fail "op")
 (.ite (.o .eq (.v 0) (.i 0))
 (.need (.o .ne (.v 2) (.i 0)) (.need (.o .ne (.v 2) (.i 0)) (.leaf [(.o (.quo .u64) (.v 1) (.v 2)), (.o (.rem .u64) (.v 1) (.v 2))])))
 (.call 60 [(.v 2)] 1
 (.need (.o .le (.i 0) (.u (.conv .u64) (.v 3))) (.need (.o .le (.i 0) (.u (.conv .u64) (.v 3))) (.need (.o .le (.i 0) (.o (.sub .u64) (.i 64) (.u (.conv .u64) (.v 3)))) (.need (.o .le (.i 0) (.u (.conv .u64) (.v 3))) (.need (.o .ne (.o (.shr .u64) (.o (.shl .u64) (.v 2) (.u (.conv .u64) (.v 3))) (.i 32)) (.i 0)) (.loop [(.o (.quo .u64) (.o (.bor .u64) (.o (.shl .u64) (.v 0) (.u (.conv .u64) (.v 3))) (.o (.shr .u64) (.v 1) (.o (.sub .u64) (.i 64) (.u (.conv .u64) (.v 3))))) (.o (.shr .u64) (.o (.shl .u64) (.v 2) (.u (.conv .u64) (.v 3))) (.i 32))), (.o (.sub .u64) (.o (.bor .u64) (.o (.shl .u64) (.v 0) (.u (.conv .u64) (.v 3))) (.o (.shr .u64) (.v 1) (.o (.sub .u64) (.i 64) (.u (.conv .u64) (.v 3))))) (.o (.mul .u64) (.o (.quo .u64) (.o (.bor .u64) (.o (.shl .u64) (.v 0) (.u (.conv .u64) (.v 3))) (.o (.shr .u64) (.v 1) (.o (.sub .u64) (.i 64) (.u (.conv .u64) (.v 3))))) (.o (.shr .u64) (.o (.shl .u64) (.v 2) (.u (.conv .u64) (.v 3))) (.i 32))) (.o (.shr .u64) (.o (.shl .u64) (.v 2) (.u (.conv .u64) (.v 3))) (.i 32))))]
 (.ite (.o .le (.i 4294967296) (.v 4))
 (.ite (.o .le (.i 4294967296) (.o (.add .u64) (.v 5) (.o (.shr .u64) (.o (.shl .u64) (.v 2) (.u (.conv .u64) (.v 3))) (.i 32))))
 (.need (.o .ne (.o (.shr .u64) (.o (.shl .u64) (.v 2) (.u (.conv .u64) (.v 3))) (.i 32)) (.i 0)) (.loop [(.o (.quo .u64) (.o (.sub .u64) (.o (.add .u64) (.o (.mul .u64) (.o (.bor .u64) (.o (.shl .u64) (.v 0) (.u (.conv .u64) (.v 3))) (.o (.shr .u64) (.v 1) (.o (.sub .u64) (.i 64) (.u (.conv .u64) (.v 3))))) (.i 4294967296)) (.o (.shr .u64) (.o (.shl .u64) (.v 1) (.u (.conv .u64) (.v 3))) (.i 32))) (.o (.mul .u64) (.o (.sub .u64) (.v 4) (.i 1)) (.o (.shl .u64) (.v 2) (.u (.conv .u64) (.v 3))))) (.o (.shr .u64) (.o (.shl .u64) (.v 2) (.u (.conv .u64) (.v 3))) (.i 32))), (.o (.sub .u64) (.o (.sub .u64) (.o (.add .u64) (.o (.mul .u64) (.o (.bor .u64) (.o (.shl .u64) (.v 0) (.u (.conv .u64) (.v 3))) (.o (.shr .u64) (.v 1) (.o (.sub .u64) (.i 64) (.u (.conv .u64) (.v 3))))) (.i 4294967296)) (.o (.shr .u64) (.o (.shl .u64) (.v 1) (.u (.conv .u64) (.v 3))) (.i 32))) (.o (.mul .u64) (.o (.sub .u64) (.v 4) (.i 1)) (.o (.shl .u64) (.v 2) (.u (.conv .u64) (.v 3))))) (.o (.mul .u64) (.o (.quo .u64) (.o (.sub .u64) (.o (.add .u64) (.o (.mul .u64) (.o (.bor .u64) (.o (.shl .u64) (.v 0) (.u (.conv .u64) (.v 3))) (.o (.shr .u64) (.v 1) (.o (.sub .u64) (.i 64) (.u (.conv .u64) (.v 3))))) (.i 4294967296)) (.o (.shr .u64) (.o (.shl .u64) (.v 1) (.u (.conv .u64) (.v 3))) (.i 32))) (.o (.mul .u64) (.o (.sub .u64) (.v 4) (.i 1)) (.o (.shl .u64) (.v 2) (.u (.conv .u64) (.v 3))))) (.o (.shr .u64) (.o (.shl .u64) (.v 2) (.u (.conv .u64) (.v 3))) (.i 32))) (.o (.shr .u64) (.o (.shl .u64) (.v 2) (.u (.conv .u64) (.v 3))) (.i 32))))]
 (.ite (.o .le (.i 4294967296) (.v 6))
 (.ite (.o .le (.i 4294967296) (.o (.add .u64) (.v 7) (.o (.shr .u64) (.o (.shl .u64) (.v 2) (.u (.conv .u64) (.v 3))) (.i 32))))
 (.need (.o .le (.i 0) (.u (.conv .u64) (.v 3))) (.leaf [(.o (.add .u64) (.o (.mul .u64) (.o (.sub .u64) (.v 4) (.i 1)) (.i 4294967296)) (.o (.sub .u64) (.v 6) (.i 1))), (.o (.shr .u64) (.o (.sub .u64) (.o (.add .u64) (.o (.mul .u64) (.o (.sub .u64) (.o (.add .u64) (.o (.mul .u64) (.o (.bor .u64) (.o (.shl .u64) (.v 0) (.u (.conv .u64) (.v 3))) (.o (.shr .u64) (.v 1) (.o (.sub .u64) (.i 64) (.u (.conv .u64) (.v 3))))) (.i 4294967296)) (.o (.shr .u64) (.o (.shl .u64) (.v 1) (.u (.conv .u64) (.v 3))) (.i 32))) (.o (.mul .u64) (.o (.sub .u64) (.v 4) (.i 1)) (.o (.shl .u64) (.v 2) (.u (.conv .u64) (.v 3))))) (.i 4294967296)) (.o (.band .u64) (.o (.shl .u64) (.v 1) (.u (.conv .u64) (.v 3))) (.i 4294967295))) (.o (.mul .u64) (.o (.sub .u64) (.v 6) (.i 1)) (.o (.shl .u64) (.v 2) (.u (.conv .u64) (.v 3))))) (.u (.conv .u64) (.v 3)))]))
 (.next 1 [(.o (.sub .u64) (.v 6) (.i 1)), (.o (.add .u64) (.v 7) (.o (.shr .u64) (.o (.shl .u64) (.v 2) (.u (.conv .u64) (.v 3))) (.i 32)))]))
 (.ite (.o .lt (.o (.add .u64) (.o (.mul .u64) (.i 4294967296) (.v 7)) (.o (.band .u64) (.o (.shl .u64) (.v 1) (.u (.conv .u64) (.v 3))) (.i 4294967295))) (.o (.mul .u64) (.v 6) (.o (.band .u64) (.o (.shl .u64) (.v 2) (.u (.conv .u64) (.v 3))) (.i 4294967295))))
 (.ite (.o .le (.i 4294967296) (.o (.add .u64) (.v 7) (.o (.shr .u64) (.o (.shl .u64) (.v 2) (.u (.conv .u64) (.v 3))) (.i 32))))
 (.need (.o .le (.i 0) (.u (.conv .u64) (.v 3))) (.leaf [(.o (.add .u64) (.o (.mul .u64) (.o (.sub .u64) (.v 4) (.i 1)) (.i 4294967296)) (.o (.sub .u64) (.v 6) (.i 1))), (.o (.shr .u64) (.o (.sub .u64) (.o (.add .u64) (.o (.mul .u64) (.o (.sub .u64) (.o (.add .u64) (.o (.mul .u64) (.o (.bor .u64) (.o (.shl .u64) (.v 0) (.u (.conv .u64) (.v 3))) (.o (.shr .u64) (.v 1) (.o (.sub .u64) (.i 64) (.u (.conv .u64) (.v 3))))) (.i 4294967296)) (.o (.shr .u64) (.o (.shl .u64) (.v 1) (.u (.conv .u64) (.v 3))) (.i 32))) (.o (.mul .u64) (.o (.sub .u64) (.v 4) (.i 1)) (.o (.shl .u64) (.v 2) (.u (.conv .u64) (.v 3))))) (.i 4294967296)) (.o (.band .u64) (.o (.shl .u64) (.v 1) (.u (.conv .u64) (.v 3))) (.i 4294967295))) (.o (.mul .u64) (.o (.sub .u64) (.v 6) (.i 1)) (.o (.shl .u64) (.v 2) (.u (.conv .u64) (.v 3))))) (.u (.conv .u64) (.v 3)))]))
 (.next 1 [(.o (.sub .u64) (.v 6) (.i 1)), (.o (.add .u64) (.v 7) (.o (.shr .u64) (.o (.shl .u64) (.v 2) (.u (.conv .u64) (.v 3))) (.i 32)))]))
 (.need (.o .le (.i 0) (.u (.conv .u64) (.v 3))) (.leaf [(.o (.add .u64) (.o (.mul .u64) (.o (.sub .u64) (.v 4) (.i 1)) (.i 4294967296)) (.v 6)), (.o (.shr .u64) (.o (.sub .u64) (.o (.add .u64) (.o (.mul .u64) (.o (.sub .u64) (.o (.add .u64) (.o (.mul .u64) (.o (.bor .u64) (.o (.shl .u64) (.v 0) (.u (.conv .u64) (.v 3))) (.o (.shr .u64) (.v 1) (.o (.sub .u64) (.i 64) (.u (.conv .u64) (.v 3))))) (.i 4294967296)) (.o (.shr .u64) (.o (.shl .u64) (.v 1) (.u (.conv .u64) (.v 3))) (.i 32))) (.o (.mul .u64) (.o (.sub .u64) (.v 4) (.i 1)) (.o (.shl .u64) (.v 2) (.u (.conv .u64) (.v 3))))) (.i 4294967296)) (.o (.band .u64) (.o (.shl .u64) (.v 1) (.u (.conv .u64) (.v 3))) (.i 4294967295))) (.o (.mul .u64) (.v 6) (.o (.shl .u64) (.v 2) (.u (.conv .u64) (.v 3))))) (.u (.conv .u64) (.v 3)))]))))))
 (.next 0 [(.o (.sub .u64) (.v 4) (.i 1)), (.o (.add .u64) (.v 5) (.o (.shr .u64) (.o (.shl .u64) (.v 2) (.u (.conv .u64) (.v 3))) (.i 32)))]))
 (.ite (.o .lt (.o (.add .u64) (.o (.mul .u64) (.i 4294967296) (.v 5)) (.o (.shr .u64) (.o (.shl .u64) (.v 1) (.u (.conv .u64) (.v 3))) (.i 32))) (.o (.mul .u64) (.v 4) (.o (.band .u64) (.o (.shl .u64) (.v 2) (.u (.conv .u64) (.v 3))) (.i 4294967295))))
 (.ite (.o .le (.i 4294967296) (.o (.add .u64) (.v 5) (.o (.shr .u64) (.o (.shl .u64) (.v 2) (.u (.conv .u64) (.v 3))) (.i 32))))
 (.need (.o .ne (.o (.shr .u64) (.o (.shl .u64) (.v 2) (.u (.conv .u64) (.v 3))) (.i 32)) (.i 0)) (.loop [(.o (.quo .u64) (.o (.sub .u64) (.o (.add .u64) (.o (.mul .u64) (.o (.bor .u64) (.o (.shl .u64) (.v 0) (.u (.conv .u64) (.v 3))) (.o (.shr .u64) (.v 1) (.o (.sub .u64) (.i 64) (.u (.conv .u64) (.v 3))))) (.i 4294967296)) (.o (.shr .u64) (.o (.shl .u64) (.v 1) (.u (.conv .u64) (.v 3))) (.i 32))) (.o (.mul .u64) (.o (.sub .u64) (.v 4) (.i 1)) (.o (.shl .u64) (.v 2) (.u (.conv .u64) (.v 3))))) (.o (.shr .u64) (.o (.shl .u64) (.v 2) (.u (.conv .u64) (.v 3))) (.i 32))), (.o (.sub .u64) (.o (.sub .u64) (.o (.add .u64) (.o (.mul .u64) (.o (.bor .u64) (.o (.shl .u64) (.v 0) (.u (.conv .u64) (.v 3))) (.o (.shr .u64) (.v 1) (.o (.sub .u64) (.i 64) (.u (.conv .u64) (.v 3))))) (.i 4294967296)) (.o (.shr .u64) (.o (.shl .u64) (.v 1) (.u (.conv .u64) (.v 3))) (.i 32))) (.o (.mul .u64) (.o (.sub .u64) (.v 4) (.i 1)) (.o (.shl .u64) (.v 2) (.u (.conv .u64) (.v 3))))) (.o (.mul .u64) (.o (.quo .u64) (.o (.sub .u64) (.o (.add .u64) (.o (.mul .u64) (.o (.bor .u64) (.o (.shl .u64) (.v 0) (.u (.conv .u64) (.v 3))) (.o (.shr .u64) (.v 1) (.o (.sub .u64) (.i 64) (.u (.conv .u64) (.v 3))))) (.i 4294967296)) (.o (.shr .u64) (.o (.shl .u64) (.v 1) (.u (.conv .u64) (.v 3))) (.i 32))) (.o (.mul .u64) (.o (.sub .u64) (.v 4) (.i 1)) (.o (.shl .u64) (.v 2) (.u (.conv .u64) (.v 3))))) (.o (.shr .u64) (.o (.shl .u64) (.v 2) (.u (.conv .u64) (.v 3))) (.i 32))) (.o (.shr .u64) (.o (.shl .u64) (.v 2) (.u (.conv .u64) (.v 3))) (.i 32))))]
 (.ite (.o .le (.i 4294967296) (.v 6))
 (.ite (.o .le (.i 4294967296) (.o (.add .u64) (.v 7) (.o (.shr .u64) (.o (.shl .u64) (.v 2) (.u (.conv .u64) (.v 3))) (.i 32))))
 (.need (.o .le (.i 0) (.u (.conv .u64) (.v 3))) (.leaf [(.o (.add .u64) (.o (.mul .u64) (.o (.sub .u64) (.v 4) (.i 1)) (.i 4294967296)) (.o (.sub .u64) (.v 6) (.i 1))), (.o (.shr .u64) (.o (.sub .u64) (.o (.add .u64) (.o (.mul .u64) (.o (.sub .u64) (.o (.add .u64) (.o (.mul .u64) (.o (.bor .u64) (.o (.shl .u64) (.v 0) (.u (.conv .u64) (.v 3))) (.o (.shr .u64) (.v 1) (.o (.sub .u64) (.i 64) (.u (.conv .u64) (.v 3))))) (.i 4294967296)) (.o (.shr .u64) (.o (.shl .u64) (.v 1) (.u (.conv .u64) (.v 3))) (.i 32))) (.o (.mul .u64) (.o (.sub .u64) (.v 4) (.i 1)) (.o (.shl .u64) (.v 2) (.u (.conv .u64) (.v 3))))) (.i 4294967296)) (.o (.band .u64) (.o (.shl .u64) (.v 1) (.u (.conv .u64) (.v 3))) (.i 4294967295))) (.o (.mul .u64) (.o (.sub .u64) (.v 6) (.i 1)) (.o (.shl .u64) (.v 2) (.u (.conv .u64) (.v 3))))) (.u (.conv .u64) (.v 3)))]))
 (.next 1 [(.o (.sub .u64) (.v 6) (.i 1)), (.o (.add .u64) (.v 7) (.o (.shr .u64) (.o (.shl .u64) (.v 2) (.u (.conv .u64) (.v 3))) (.i 32)))]))
 (.ite (.o .lt (.o (.add .u64) (.o (.mul .u64) (.i 4294967296) (.v 7)) (.o (.band .u64) (.o (.shl .u64) (.v 1) (.u (.conv .u64) (.v 3))) (.i 4294967295))) (.o (.mul .u64) (.v 6) (.o (.band .u64) (.o (.shl .u64) (.v 2) (.u (.conv .u64) (.v 3))) (.i 4294967295))))
 (.ite (.o .le (.i 4294967296) (.o (.add .u64) (.v 7) (.o (.shr .u64) (.o (.shl .u64) (.v 2) (.u (.conv .u64) (.v 3))) (.i 32))))
 (.need (.o .le (.i 0) (.u (.conv .u64) (.v 3))) (.leaf [(.o (.add .u64) (.o (.mul .u64) (.o (.sub .u64) (.v 4) (.i 1)) (.i 4294967296)) (.o (.sub .u64) (.v 6) (.i 1))), (.o (.shr .u64) (.o (.sub .u64) (.o (.add .u64) (.o (.mul .u64) (.o (.sub .u64) (.o (.add .u64) (.o (.mul .u64) (.o (.bor .u64) (.o (.shl .u64) (.v 0) (.u (.conv .u64) (.v 3))) (.o (.shr .u64) (.v 1) (.o (.sub .u64) (.i 64) (.u (.conv .u64) (.v 3))))) (.i 4294967296)) (.o (.shr .u64) (.o (.shl .u64) (.v 1) (.u (.conv .u64) (.v 3))) (.i 32))) (.o (.mul .u64) (.o (.sub .u64) (.v 4) (.i 1)) (.o (.shl .u64) (.v 2) (.u (.conv .u64) (.v 3))))) (.i 4294967296)) (.o (.band .u64) (.o (.shl .u64) (.v 1) (.u (.conv .u64) (.v 3))) (.i 4294967295))) (.o (.mul .u64) (.o (.sub .u64) (.v 6) (.i 1)) (.o (.shl .u64) (.v 2) (.u (.conv .u64) (.v 3))))) (.u (.conv .u64) (.v 3)))]))
 (.next 1 [(.o (.sub .u64) (.v 6) (.i 1)), (.o (.add .u64) (.v 7) (.o (.shr .u64) (.o (.shl .u64) (.v 2) (.u (.conv .u64) (.v 3))) (.i 32)))]))
 (.need (.o .le (.i 0) (.u (.conv .u64) (.v 3))) (.leaf [(.o (.add .u64) (.o (.mul .u64) (.o (.sub .u64) (.v 4) (.i 1)) (.i 4294967296)) (.v 6)), (.o (.shr .u64) (.o (.sub .u64) (.o (.add .u64) (.o (.mul .u64) (.o (.sub .u64) (.o (.add .u64) (.o (.mul .u64) (.o (.bor .u64) (.o (.shl .u64) (.v 0) (.u (.conv .u64) (.v 3))) (.o (.shr .u64) (.v 1) (.o (.sub .u64) (.i 64) (.u (.conv .u64) (.v 3))))) (.i 4294967296)) (.o (.shr .u64) (.o (.shl .u64) (.v 1) (.u (.conv .u64) (.v 3))) (.i 32))) (.o (.mul .u64) (.o (.sub .u64) (.v 4) (.i 1)) (.o (.shl .u64) (.v 2) (.u (.conv .u64) (.v 3))))) (.i 4294967296)) (.o (.band .u64) (.o (.shl .u64) (.v 1) (.u (.conv .u64) (.v 3))) (.i 4294967295))) (.o (.mul .u64) (.v 6) (.o (.shl .u64) (.v 2) (.u (.conv .u64) (.v 3))))) (.u (.conv .u64) (.v 3)))]))))))
 (.next 0 [(.o (.sub .u64) (.v 4) (.i 1)), (.o (.add .u64) (.v 5) (.o (.shr .u64) (.o (.shl .u64) (.v 2) (.u (.conv .u64) (.v 3))) (.i 32)))]))
 (.need (.o .ne (.o (.shr .u64) (.o (.shl .u64) (.v 2) (.u (.conv .u64) (.v 3))) (.i 32)) (.i 0)) (.loop [(.o (.quo .u64) (.o (.sub .u64) (.o (.add .u64) (.o (.mul .u64) (.o (.bor .u64) (.o (.shl .u64) (.v 0) (.u (.conv .u64) (.v 3))) (.o (.shr .u64) (.v 1) (.o (.sub .u64) (.i 64) (.u (.conv .u64) (.v 3))))) (.i 4294967296)) (.o (.shr .u64) (.o (.shl .u64) (.v 1) (.u (.conv .u64) (.v 3))) (.i 32))) (.o (.mul .u64) (.v 4) (.o (.shl .u64) (.v 2) (.u (.conv .u64) (.v 3))))) (.o (.shr .u64) (.o (.shl .u64) (.v 2) (.u (.conv .u64) (.v 3))) (.i 32))), (.o (.sub .u64) (.o (.sub .u64) (.o (.add .u64) (.o (.mul .u64) (.o (.bor .u64) (.o (.shl .u64) (.v 0) (.u (.conv .u64) (.v 3))) (.o (.shr .u64) (.v 1) (.o (.sub .u64) (.i 64) (.u (.conv .u64) (.v 3))))) (.i 4294967296)) (.o (.shr .u64) (.o (.shl .u64) (.v 1) (.u (.conv .u64) (.v 3))) (.i 32))) (.o (.mul .u64) (.v 4) (.o (.shl .u64) (.v 2) (.u (.conv .u64) (.v 3))))) (.o (.mul .u64) (.o (.quo .u64) (.o (.sub .u64) (.o (.add .u64) (.o (.mul .u64) (.o (.bor .u64) (.o (.shl .u64) (.v 0) (.u (.conv .u64) (.v 3))) (.o (.shr .u64) (.v 1) (.o (.sub .u64) (.i 64) (.u (.conv .u64) (.v 3))))) (.i 4294967296)) (.o (.shr .u64) (.o (.shl .u64) (.v 1) (.u (.conv .u64) (.v 3))) (.i 32))) (.o (.mul .u64) (.v 4) (.o (.shl .u64) (.v 2) (.u (.conv .u64) (.v 3))))) (.o (.shr .u64) (.o (.shl .u64) (.v 2) (.u (.conv .u64) (.v 3))) (.i 32))) (.o (.shr .u64) (.o (.shl .u64) (.v 2) (.u (.conv .u64) (.v 3))) (.i 32))))]
 (.ite (.o .le (.i 4294967296) (.v 6))
 (.ite (.o .le (.i 4294967296) (.o (.add .u64) (.v 7) (.o (.shr .u64) (.o (.shl .u64) (.v 2) (.u (.conv .u64) (.v 3))) (.i 32))))
 (.need (.o .le (.i 0) (.u (.conv .u64) (.v 3))) (.leaf [(.o (.add .u64) (.o (.mul .u64) (.v 4) (.i 4294967296)) (.o (.sub .u64) (.v 6) (.i 1))), (.o (.shr .u64) (.o (.sub .u64) (.o (.add .u64) (.o (.mul .u64) (.o (.sub .u64) (.o (.add .u64) (.o (.mul .u64) (.o (.bor .u64) (.o (.shl .u64) (.v 0) (.u (.conv .u64) (.v 3))) (.o (.shr .u64) (.v 1) (.o (.sub .u64) (.i 64) (.u (.conv .u64) (.v 3))))) (.i 4294967296)) (.o (.shr .u64) (.o (.shl .u64) (.v 1) (.u (.conv .u64) (.v 3))) (.i 32))) (.o (.mul .u64) (.v 4) (.o (.shl .u64) (.v 2) (.u (.conv .u64) (.v 3))))) (.i 4294967296)) (.o (.band .u64) (.o (.shl .u64) (.v 1) (.u (.conv .u64) (.v 3))) (.i 4294967295))) (.o (.mul .u64) (.o (.sub .u64) (.v 6) (.i 1)) (.o (.shl .u64) (.v 2) (.u (.conv .u64) (.v 3))))) (.u (.conv .u64) (.v 3)))]))
 (.next 1 [(.o (.sub .u64) (.v 6) (.i 1)), (.o (.add .u64) (.v 7) (.o (.shr .u64) (.o (.shl .u64) (.v 2) (.u (.conv .u64) (.v 3))) (.i 32)))]))
 (.ite (.o .lt (.o (.add .u64) (.o (.mul .u64) (.i 4294967296) (.v 7)) (.o (.band .u64) (.o (.shl .u64) (.v 1) (.u (.conv .u64) (.v 3))) (.i 4294967295))) (.o (.mul .u64) (.v 6) (.o (.band .u64) (.o (.shl .u64) (.v 2) (.u (.conv .u64) (.v 3))) (.i 4294967295))))
 (.ite (.o .le (.i 4294967296) (.o (.add .u64) (.v 7) (.o (.shr .u64) (.o (.shl .u64) (.v 2) (.u (.conv .u64) (.v 3))) (.i 32))))
 (.need (.o .le (.i 0) (.u (.conv .u64) (.v 3))) (.leaf [(.o (.add .u64) (.o (.mul .u64) (.v 4) (.i 4294967296)) (.o (.sub .u64) (.v 6) (.i 1))), (.o (.shr .u64) (.o (.sub .u64) (.o (.add .u64) (.o (.mul .u64) (.o (.sub .u64) (.o (.add .u64) (.o (.mul .u64) (.o (.bor .u64) (.o (.shl .u64) (.v 0) (.u (.conv .u64) (.v 3))) (.o (.shr .u64) (.v 1) (.o (.sub .u64) (.i 64) (.u (.conv .u64) (.v 3))))) (.i 4294967296)) (.o (.shr .u64) (.o (.shl .u64) (.v 1) (.u (.conv .u64) (.v 3))) (.i 32))) (.o (.mul .u64) (.v 4) (.o (.shl .u64) (.v 2) (.u (.conv .u64) (.v 3))))) (.i 4294967296)) (.o (.band .u64) (.o (.shl .u64) (.v 1) (.u (.conv .u64) (.v 3))) (.i 4294967295))) (.o (.mul .u64) (.o (.sub .u64) (.v 6) (.i 1)) (.o (.shl .u64) (.v 2) (.u (.conv .u64) (.v 3))))) (.u (.conv .u64) (.v 3)))]))
 (.next 1 [(.o (.sub .u64) (.v 6) (.i 1)), (.o (.add .u64) (.v 7) (.o (.shr .u64) (.o (.shl .u64) (.v 2) (.u (.conv .u64) (.v 3))) (.i 32)))]))
 (.need (.o .le (.i 0) (.u (.conv .u64) (.v 3))) (.leaf [(.o (.add .u64) (.o (.mul .u64) (.v 4) (.i 4294967296)) (.v 6)), (.o (.shr .u64) (.o (.sub .u64) (.o (.add .u64) (.o (.mul .u64) (.o (.sub .u64) (.o (.add .u64) (.o (.mul .u64) (.o (.bor .u64) (.o (.shl .u64) (.v 0) (.u (.conv .u64) (.v 3))) (.o (.shr .u64) (.v 1) (.o (.sub .u64) (.i 64) (.u (.conv .u64) (.v 3))))) (.i 4294967296)) (.o (.shr .u64) (.o (.shl .u64) (.v 1) (.u (.conv .u64) (.v 3))) (.i 32))) (.o (.mul .u64) (.v 4) (.o (.shl .u64) (.v 2) (.u (.conv .u64) (.v 3))))) (.i 4294967296)) (.o (.band .u64) (.o (.shl .u64) (.v 1) (.u (.conv .u64) (.v 3))) (.i 4294967295))) (.o (.mul .u64) (.v 6) (.o (.shl .u64) (.v 2) (.u (.conv .u64) (.v 3))))) (.u (.conv .u64) (.v 3)))]))))))))))))))))))
noncomputable def k_bits_Div64 : Known Try.prog := known mixedOk [k_bits_LeadingZeros64] (by decide) [⟨5300024, [(18, 0), (16, 0)], [102, 103, 104, 105, 106, 107, 108, 109, 110, 111, 112, 113, 114, 115, 116, 117, 118, 119, 120], [], []⟩, ⟨5300017, [(15, 0), (16, 0)], [67, 68, 69, 70, 71, 72, 73, 74, 75, 76, 77, 78, 79, 80, 81, 82, 83, 84, 85], [], []⟩] plTypes plOk inFuncs insOk 6 ⟨53, [(.a (.ck (.int .u64))), (.a (.ck (.int .u64))), (.a (.ck (.int .u64)))], (.t [(.a (.ck (.int .u64))), (.a (.ck (.int .u64)))])⟩ (fun args w => Try.call53 args w) tk_bits_Div64 (by kernel_rfl)
theorem k_bits_Div64_f : k_bits_Div64.con.f = 53 := rfl
theorem k_bits_Div64_F (l : List Sc) : k_bits_Div64.F l = if l.length = 3 then tk_bits_Div64.den (gam (P := Try.prog) [k_bits_LeadingZeros64]) l [] else none := rfl
def tk_tally_Of : T (List Ex) :=
 (.loop [(.i 0), (.i 0), (.i 0), (.i 0), (.i 0), (.i 0)]
 (.ite (.o .lt (.v 1) (.u .len (.v 0)))
 (.need (.o .le (.i 0) (.v 1)) (.need (.o .lt (.v 1) (.u .len (.v 0))) (.call 29 [(.v 2), (.v 3), (.v 4), (.v 5), (.v 6), (.o .idx (.v 0) (.v 1))] 6
 (.ite (.o .ne (.v 12) (.i 0))
 (.leaf [(.i 0), (.i 0), (.i 0), (.i 0), (.i 0), (.v 12)])
 (.next 0 [(.o (.add .i64) (.v 1) (.i 1)), (.v 7), (.v 8), (.v 9), (.v 10), (.v 11)])))))
 (.leaf [(.v 2), (.v 3), (.v 4), (.v 5), (.v 6), (.i 0)])))
noncomputable def k_tally_Of : Known Try.prog := known mixedOk [k_tally_Add] (by decide) [⟨2200003, [(11, 0)], [12, 13, 14, 6, 16, 17, 18, 15, 19, 20, 7, 8, 21, 22, 23, 24, 3, 25, 26], [(1, (0, 0)), (1, (1, 0)), (1, (2, 0)), (1, (3, 0)), (1, (4, 0))], []⟩] plTypes plOk inFuncs insOk 6 ⟨22, [(.a (.row 3 [(.int .i64)] false))], (.t [(.g [(.ck (.int .i64)), (.ck (.int .i64)), (.ck (.int .i64)), (.ck (.int .i64)), (.ck (.int .i64))]), (.a (.ck (.int .i64)))])⟩ (fun args w => Try.call22 args w) tk_tally_Of (by kernel_rfl)
theorem k_tally_Of_f : k_tally_Of.con.f = 22 := rfl
theorem k_tally_Of_F (l : List Sc) : k_tally_Of.F l = if l.length = 1 then tk_tally_Of.den (gam (P := Try.prog) [k_tally_Add]) l [] else none := rfl
def tk_simulatorref27_Of : T (List Ex) :=
 (.loop [(.i 0), (.i 0), (.i 0), (.i 0), (.i 0), (.i 0)]
 (.ite (.o .lt (.v 1) (.u .len (.v 0)))
 (.need (.o .le (.i 0) (.v 1)) (.need (.o .lt (.v 1) (.u .len (.v 0))) (.call 34 [(.v 2), (.v 3), (.v 4), (.v 5), (.v 6), (.o .idx (.v 0) (.v 1))] 6
 (.ite (.o .ne (.v 12) (.i 0))
 (.leaf [(.i 0), (.i 0), (.i 0), (.i 0), (.i 0), (.v 12)])
 (.next 0 [(.o (.add .i64) (.v 1) (.i 1)), (.v 7), (.v 8), (.v 9), (.v 10), (.v 11)])))))
 (.leaf [(.v 2), (.v 3), (.v 4), (.v 5), (.v 6), (.i 0)])))
noncomputable def k_simulatorref27_Of : Known Try.prog := known mixedOk [k_simulatorref27_Add] (by decide) [⟨2600003, [(6, 0)], [8, 9, 10, 11, 15, 16, 17, 18, 19, 20, 14, 21, 22, 5, 23, 24, 25, 26, 3, 12, 13], [(1, (0, 0)), (1, (1, 0)), (1, (2, 0)), (1, (3, 0)), (1, (4, 0))], []⟩] plTypes plOk inFuncs insOk 6 ⟨26, [(.a (.row 3 [(.int .i64)] false))], (.t [(.g [(.ck (.int .i64)), (.ck (.int .i64)), (.ck (.int .i64)), (.ck (.int .i64)), (.ck (.int .i64))]), (.a (.ck (.int .i64)))])⟩ (fun args w => Try.call26 args w) tk_simulatorref27_Of (by kernel_rfl)
theorem k_simulatorref27_Of_f : k_simulatorref27_Of.con.f = 26 := rfl
theorem k_simulatorref27_Of_F (l : List Sc) : k_simulatorref27_Of.F l = if l.length = 1 then tk_simulatorref27_Of.den (gam (P := Try.prog) [k_simulatorref27_Add]) l [] else none := rfl
def tk_simulatorref02_Made : T (List Ex) :=
 (.call 45 [(.v 1), (.v 2), (.v 3), (.v 4)] 2
 (.call 46 [(.v 1), (.v 2), (.v 5), (.v 6)] 4
 (.call 46 [(.v 3), (.v 4), (.v 5), (.v 6)] 4
 (.ite (.o .ne (.v 7) (.i 0))
 (.leaf [(.i 0), (.i 0), (.b false)])
 (.ite (.o .lt (.i 4611686018427387904) (.v 8))
 (.leaf [(.i 0), (.i 0), (.b false)])
 (.ite (.o .ne (.v 11) (.i 0))
 (.leaf [(.i 0), (.i 0), (.b false)])
 (.ite (.o .lt (.i 1000000000000000) (.v 12))
 (.leaf [(.i 0), (.i 0), (.b false)])
 (.ite (.v 0)
 (.leaf [(.o (.sub .i64) (.i 0) (.u (.conv .i64) (.v 8))), (.u (.conv .i64) (.v 12)), (.b true)])
 (.leaf [(.u (.conv .i64) (.v 8)), (.u (.conv .i64) (.v 12)), (.b true)])))))))))
noncomputable def k_simulatorref02_Made : Known Try.prog := known mixedOk [k_simulatorref02_common, k_simulatorref02_Divide] (by decide) [] plTypes plOk inFuncs insOk 6 ⟨32, [(.g [(.ck .bool), (.ck (.int .u64)), (.ck (.int .u64))]), (.g [(.ck (.int .u64)), (.ck (.int .u64))])], (.t [(.g [(.ck (.int .i64)), (.ck (.int .i64))]), (.a (.ck .bool))])⟩ (fun args w => Try.call32 args w) tk_simulatorref02_Made (by kernel_rfl)
theorem k_simulatorref02_Made_f : k_simulatorref02_Made.con.f = 32 := rfl
theorem k_simulatorref02_Made_F (l : List Sc) : k_simulatorref02_Made.F l = if l.length = 5 then tk_simulatorref02_Made.den (gam (P := Try.prog) [k_simulatorref02_common, k_simulatorref02_Divide]) l [] else none := rfl
def tk_frac_wide_mod : T (List Ex) :=
 (.need (.o .ne (.v 2) (.i 0)) (.call 53 [(.o (.rem .u64) (.v 0) (.v 2)), (.v 1), (.v 2)] 2
 (.leaf [(.v 4)])))
noncomputable def k_frac_wide_mod : Known Try.prog := known mixedOk [k_bits_Div64] (by decide) [] plTypes plOk inFuncs insOk 6 ⟨43, [(.g [(.ck (.int .u64)), (.ck (.int .u64))]), (.a (.ck (.int .u64)))], (.c (.a (.ck (.int .u64))))⟩ (fun args w => Try.call43 args w) tk_frac_wide_mod (by kernel_rfl)
theorem k_frac_wide_mod_f : k_frac_wide_mod.con.f = 43 := rfl
theorem k_frac_wide_mod_F (l : List Sc) : k_frac_wide_mod.F l = if l.length = 3 then tk_frac_wide_mod.den (gam (P := Try.prog) [k_bits_Div64]) l [] else none := rfl
def tk_frac_wide_over : T (List Ex) :=
 (.ite (.o .le (.v 2) (.v 0))
 (.leaf [(.i 0), (.b false)])
 (.call 53 [(.v 0), (.v 1), (.v 2)] 2
 (.leaf [(.v 3), (.b true)])))
noncomputable def k_frac_wide_over : Known Try.prog := known mixedOk [k_bits_Div64] (by decide) [] plTypes plOk inFuncs insOk 6 ⟨44, [(.g [(.ck (.int .u64)), (.ck (.int .u64))]), (.a (.ck (.int .u64)))], (.t [(.a (.ck (.int .u64))), (.a (.ck .bool))])⟩ (fun args w => Try.call44 args w) tk_frac_wide_over (by kernel_rfl)
theorem k_frac_wide_over_f : k_frac_wide_over.con.f = 44 := rfl
theorem k_frac_wide_over_F (l : List Sc) : k_frac_wide_over.F l = if l.length = 3 then tk_frac_wide_over.den (gam (P := Try.prog) [k_bits_Div64]) l [] else none := rfl
def tk_series_Tally : T (List Ex) :=
 (.call 15 [(.v 0)] 1
 (.call 22 [(.v 1)] 6
 (.leaf [(.v 2), (.v 3), (.v 4), (.v 5), (.v 6), (.v 7)])))
noncomputable def k_series_Tally : Known Try.prog := known mixedOk [k_series_Values, k_tally_Of] (by decide) [] plTypes plOk inFuncs insOk 6 ⟨11, [(.a (.row 45 [(.int .i64), (.int .i64)] true))], (.t [(.g [(.ck (.int .i64)), (.ck (.int .i64)), (.ck (.int .i64)), (.ck (.int .i64)), (.ck (.int .i64))]), (.a (.ck (.int .i64)))])⟩ (fun args w => Try.call11 args w) tk_series_Tally (by kernel_rfl)
theorem k_series_Tally_f : k_series_Tally.con.f = 11 := rfl
theorem k_series_Tally_F (l : List Sc) : k_series_Tally.F l = if l.length = 1 then tk_series_Tally.den (gam (P := Try.prog) [k_series_Values, k_tally_Of]) l [] else none := rfl
def tk_simulatorref46_Tally : T (List Ex) :=
 (.call 16 [(.v 0)] 1
 (.call 26 [(.v 1)] 6
 (.leaf [(.v 2), (.v 3), (.v 4), (.v 5), (.v 6), (.v 7)])))
noncomputable def k_simulatorref46_Tally : Known Try.prog := known mixedOk [k_simulatorref46_Values, k_simulatorref27_Of] (by decide) [] plTypes plOk inFuncs insOk 6 ⟨12, [(.a (.row 45 [(.int .i64), (.int .i64)] true))], (.t [(.g [(.ck (.int .i64)), (.ck (.int .i64)), (.ck (.int .i64)), (.ck (.int .i64)), (.ck (.int .i64))]), (.a (.ck (.int .i64)))])⟩ (fun args w => Try.call12 args w) tk_simulatorref46_Tally (by kernel_rfl)
theorem k_simulatorref46_Tally_f : k_simulatorref46_Tally.con.f = 12 := rfl
theorem k_simulatorref46_Tally_F (l : List Sc) : k_simulatorref46_Tally.F l = if l.length = 1 then tk_simulatorref46_Tally.den (gam (P := Try.prog) [k_simulatorref46_Values, k_simulatorref27_Of]) l [] else none := rfl
def tk_simulatorref02_Of : T (List Ex) :=
 (.ite (.o .eq (.v 1) (.i 0))
 (.leaf [(.i 0), (.i 0), (.b false)])
 (.call 33 [(.v 0)] 1
 (.call 33 [(.v 1)] 1
 (.call 32 [(.u .not (.o .beq (.o .lt (.v 0) (.i 0)) (.o .lt (.v 1) (.i 0)))), (.i 0), (.v 2), (.i 0), (.v 3)] 3
 (.leaf [(.v 4), (.v 5), (.v 6)])))))
noncomputable def k_simulatorref02_Of : Known Try.prog := known mixedOk [k_simulatorref02_Size, k_simulatorref02_Made] (by decide) [] plTypes plOk inFuncs insOk 6 ⟨25, [(.a (.ck (.int .i64))), (.a (.ck (.int .i64)))], (.t [(.g [(.ck (.int .i64)), (.ck (.int .i64))]), (.a (.ck .bool))])⟩ (fun args w => Try.call25 args w) tk_simulatorref02_Of (by kernel_rfl)
theorem k_simulatorref02_Of_f : k_simulatorref02_Of.con.f = 25 := rfl
theorem k_simulatorref02_Of_F (l : List Sc) : k_simulatorref02_Of.F l = if l.length = 2 then tk_simulatorref02_Of.den (gam (P := Try.prog) [k_simulatorref02_Size, k_simulatorref02_Made]) l [] else none := rfl
def tk_frac_sum : T (List Ex) :=
 (.call 40 [(.v 0), (.v 1)] 1
 (.ite (.u .not (.v 5))
 (.leaf [(.i 0), (.i 0), (.b false)])
 (.call 40 [(.v 2), (.v 3)] 1
 (.ite (.u .not (.v 6))
 (.leaf [(.i 0), (.i 0), (.b false)])
 (.call 35 [(.u (.conv .u64) (.v 1)), (.u (.conv .u64) (.v 3))] 1
 (.call 36 [(.v 0)] 1
 (.need (.o .ne (.v 7) (.i 0)) (.call 42 [(.v 8), (.o (.quo .u64) (.u (.conv .u64) (.v 3)) (.v 7))] 2
 (.call 36 [(.v 2)] 1
 (.need (.o .ne (.v 7) (.i 0)) (.call 42 [(.v 11), (.o (.quo .u64) (.u (.conv .u64) (.v 1)) (.v 7))] 2
 (.call 41 [(.o .lt (.v 0) (.i 0)), (.v 9), (.v 10), (.u .not (.o .beq (.o .lt (.v 2) (.i 0)) (.v 4))), (.v 12), (.v 13)] 3
 (.ite (.o .and (.o .eq (.v 15) (.i 0)) (.o .and (.o .eq (.v 16) (.i 0)) (.b true)))
 (.leaf [(.i 0), (.i 1), (.b true)])
 (.call 43 [(.v 15), (.v 16), (.v 7)] 1
 (.call 35 [(.v 17), (.v 7)] 1
 (.call 44 [(.v 15), (.v 16), (.v 18)] 2
 (.need (.o .ne (.v 7) (.i 0)) (.need (.o .ne (.v 18) (.i 0)) (.call 42 [(.o (.quo .u64) (.u (.conv .u64) (.v 1)) (.v 7)), (.o (.quo .u64) (.u (.conv .u64) (.v 3)) (.v 18))] 2
 (.ite (.u .not (.v 20))
 (.leaf [(.i 0), (.i 0), (.b false)])
 (.ite (.o .ne (.v 21) (.i 0))
 (.leaf [(.i 0), (.i 0), (.b false)])
 (.call 37 [(.v 14), (.v 19), (.v 22)] 3
 (.leaf [(.v 23), (.v 24), (.v 25)])))))))))))))))))))))))
noncomputable def k_frac_sum : Known Try.prog := known mixedOk [k_frac_Valid, k_frac_gcd, k_frac_size, k_frac_times, k_frac_signed, k_frac_wide_mod, k_frac_wide_over, k_frac_made] (by decide) [] plTypes plOk inFuncs insOk 6 ⟨31, [(.g [(.ck (.int .i64)), (.ck (.int .i64))]), (.g [(.ck (.int .i64)), (.ck (.int .i64))]), (.a (.ck .bool))], (.t [(.g [(.ck (.int .i64)), (.ck (.int .i64))]), (.a (.ck .bool))])⟩ (fun args w => Try.call31 args w) tk_frac_sum (by kernel_rfl)
theorem k_frac_sum_f : k_frac_sum.con.f = 31 := rfl
theorem k_frac_sum_F (l : List Sc) : k_frac_sum.F l = if l.length = 5 then tk_frac_sum.den (gam (P := Try.prog) [k_frac_Valid, k_frac_gcd, k_frac_size, k_frac_times, k_frac_signed, k_frac_wide_mod, k_frac_wide_over, k_frac_made]) l [] else none := rfl
def tk_simulatorlaw46_awake : T (List Ex) :=
 (.call 9 [(.o .cons (.o .cons (.i 3) (.o .cons (.i 0) (.o .cons (.i 14) (.o .cons (.i 0) (.o .cons (.i 0) (.o .cons (.i 5) .nil)))))) (.o .cons (.o .cons (.i 4) (.o .cons (.i 0) (.o .cons (.i 16) (.o .cons (.i 0) (.o .cons (.i 0) (.o .cons (.i 1) .nil)))))) (.o .cons (.o .cons (.i 9) (.o .cons (.i 0) (.o .cons (.i 14) (.o .cons (.i 0) (.o .cons (.i 0) (.o .cons (.i 7) .nil)))))) .nil))), (.i 0), (.i 0)] 1
 (.call 19 [(.o .cons (.i 1) (.o .cons (.i 2) (.o .cons (.i 4) .nil))), (.i 2)] 2
 (.call 19 [.nil, (.i 0)] 2
 (.call 19 [(.o .cons (.i 1) (.o .cons (.i 2) .nil)), (.i 3)] 2
 (.call 11 [(.v 0)] 6
 (.call 17 [(.v 0), (.i 3), (.i 9)] 1
 (.ite (.o .eq (.u .len (.v 0)) (.i 2))
 (.need (.o .lt (.i 1) (.u .len (.v 0))) (.ite (.o .and (.o .eq (.u (.cell 0) (.o .idx (.v 0) (.i 1))) (.i 9)) (.o .and (.o .eq (.u (.cell 1) (.o .idx (.v 0) (.i 1))) (.i 7)) (.b true)))
 (.ite (.o .eq (.u .len (.v 13)) (.i 1))
 (.need (.o .lt (.i 0) (.u .len (.v 13))) (.ite (.o .eq (.u (.cell 1) (.o .idx (.v 13) (.i 0))) (.i 5))
 (.ite (.o .eq (.v 2) (.i 0))
 (.ite (.o .eq (.u .len (.v 1)) (.i 2))
 (.need (.o .lt (.i 0) (.u .len (.v 1))) (.ite (.o .and (.o .eq (.u (.cell 0) (.o .idx (.v 1) (.i 0))) (.i 3)) (.o .and (.o .eq (.u (.cell 1) (.o .idx (.v 1) (.i 0))) (.i 2)) (.b true)))
 (.need (.o .lt (.i 1) (.u .len (.v 1))) (.ite (.o .and (.o .eq (.u (.cell 0) (.o .idx (.v 1) (.i 1))) (.i 3)) (.o .and (.o .eq (.u (.cell 1) (.o .idx (.v 1) (.i 1))) (.i 1)) (.b true)))
 (.ite (.o .eq (.v 4) (.i 2))
 (.ite (.o .eq (.u .len (.v 5)) (.i 0))
 (.ite (.o .eq (.v 6) (.i 0))
 (.ite (.o .eq (.v 7) (.i 2))
 (.ite (.o .eq (.v 8) (.i 12))
 (.leaf [(.o .eq (.v 12) (.i 0))])
 (.leaf [(.b false)]))
 (.leaf [(.b false)]))
 (.leaf [(.b false)]))
 (.leaf [(.b false)]))
 (.leaf [(.b false)]))
 (.leaf [(.b false)])))
 (.leaf [(.b false)])))
 (.leaf [(.b false)]))
 (.leaf [(.b false)]))
 (.leaf [(.b false)])))
 (.leaf [(.b false)]))
 (.leaf [(.b false)])))
 (.leaf [(.b false)]))))))))
noncomputable def k_simulatorlaw46_awake : Known Try.prog := known mixedOk [k_series_Of, k_series_Moving, k_series_Tally, k_series_Window] (by decide) [] plTypes plOk inFuncs insOk 6 ⟨8, [], (.c (.a (.ck .bool)))⟩ (fun args w => Try.call8 args w) tk_simulatorlaw46_awake (by kernel_rfl)
theorem k_simulatorlaw46_awake_f : k_simulatorlaw46_awake.con.f = 8 := rfl
theorem k_simulatorlaw46_awake_F (l : List Sc) : k_simulatorlaw46_awake.F l = if l.length = 0 then tk_simulatorlaw46_awake.den (gam (P := Try.prog) [k_series_Of, k_series_Moving, k_series_Tally, k_series_Window]) l [] else none := rfl
def tk_simulatorref46_Moving : T (List Ex) :=
 (.ite (.o .lt (.v 1) (.i 1))
 (.leaf [.nil, (.i 2)])
 (.ite (.o .lt (.i 100) (.v 1))
 (.leaf [.nil, (.i 2)])
 (.ite (.o .lt (.i 2000) (.u .len (.v 0)))
 (.leaf [.nil, (.i 6)])
 (.loop [(.i 0)]
 (.ite (.o .lt (.v 2) (.u .len (.v 0)))
 (.need (.o .le (.i 0) (.v 2)) (.need (.o .lt (.v 2) (.u .len (.v 0))) (.call 28 [(.o .idx (.v 0) (.v 2))] 1
 (.ite (.u .not (.v 3))
 (.leaf [.nil, (.i 2)])
 (.next 0 [(.o (.add .i64) (.v 2) (.i 1))])))))
 (.loop [.nil, (.o (.sub .i64) (.v 1) (.i 1))]
 (.ite (.o .lt (.v 4) (.u .len (.v 0)))
 (.loop [(.i 0), (.o (.add .i64) (.o (.sub .i64) (.v 4) (.v 1)) (.i 1))]
 (.ite (.o .le (.v 6) (.v 4))
 (.need (.o .le (.i 0) (.v 6)) (.need (.o .lt (.v 6) (.u .len (.v 0))) (.next 2 [(.o (.add .i64) (.v 5) (.o .idx (.v 0) (.v 6))), (.o (.add .i64) (.v 6) (.i 1))])))
 (.call 25 [(.v 5), (.v 1)] 3
 (.need (.o .le (.u .len (.o .snoc (.v 3) (.o .cons (.v 7) (.o .cons (.v 8) .nil)))) (.i 8796093022208)) (.next 1 [(.o .snoc (.v 3) (.o .cons (.v 7) (.o .cons (.v 8) .nil))), (.o (.add .i64) (.v 4) (.i 1))])))))
 (.leaf [(.v 3), (.i 0)]))))))))
noncomputable def k_simulatorref46_Moving : Known Try.prog := known mixedOk [k_simulatorref27_Observation, k_simulatorref02_Of] (by decide) [⟨2000016, [(9, 0), (10, 0)], [46, 47, 48, 51, 52, 53, 54, 55, 56, 49, 50], [], []⟩, ⟨2000012, [(7, 49), (8, 0)], [36, 37, 38, 39, 9, 42, 43, 44, 45, 10, 46, 47, 48, 51, 52, 53, 54, 55, 56, 49, 50, 58, 59, 60, 57, 61, 62, 11, 12, 63, 64, 65, 66, 40, 41], [], []⟩, ⟨2000006, [(6, 0)], [22, 23, 24, 25, 28, 29, 30, 31, 32, 33, 4, 5, 26, 27], [], []⟩] plTypes plOk inFuncs insOk 6 ⟨20, [(.a (.row 3 [(.int .i64)] false)), (.a (.ck (.int .i64)))], (.t [(.a (.row 49 [(.int .i64), (.int .i64)] true)), (.a (.ck (.int .i64)))])⟩ (fun args w => Try.call20 args w) tk_simulatorref46_Moving (by kernel_rfl)
theorem k_simulatorref46_Moving_f : k_simulatorref46_Moving.con.f = 20 := rfl
theorem k_simulatorref46_Moving_F (l : List Sc) : k_simulatorref46_Moving.F l = if l.length = 2 then tk_simulatorref46_Moving.den (gam (P := Try.prog) [k_simulatorref27_Observation, k_simulatorref02_Of]) l [] else none := rfl
def tk_frac_Sub : T (List Ex) :=
 (.call 31 [(.v 0), (.v 1), (.v 2), (.v 3), (.b true)] 3
 (.leaf [(.v 4), (.v 5), (.v 6)]))
noncomputable def k_frac_Sub : Known Try.prog := known mixedOk [k_frac_sum] (by decide) [] plTypes plOk inFuncs insOk 6 ⟨24, [(.g [(.ck (.int .i64)), (.ck (.int .i64))]), (.g [(.ck (.int .i64)), (.ck (.int .i64))])], (.t [(.g [(.ck (.int .i64)), (.ck (.int .i64))]), (.a (.ck .bool))])⟩ (fun args w => Try.call24 args w) tk_frac_Sub (by kernel_rfl)
theorem k_frac_Sub_f : k_frac_Sub.con.f = 24 := rfl
theorem k_frac_Sub_F (l : List Sc) : k_frac_Sub.F l = if l.length = 4 then tk_frac_Sub.den (gam (P := Try.prog) [k_frac_sum]) l [] else none := rfl
def tk_simulatorlaw46_SeriesTakes : T (List Ex) :=
 (.ite (.o .lt (.i 200) (.u .len (.v 0)))
 (.call 8 [] 1
 (.leaf [(.v 5)]))
 (.call 9 [(.v 0), (.v 1), (.v 2)] 1
 (.call 10 [(.v 0), (.v 1), (.v 2)] 1
 (.call 11 [(.v 6)] 6
 (.call 12 [(.v 6)] 6
 (.call 13 [(.v 5), (.v 6)] 1
 (.ite (.v 19)
 (.call 15 [(.v 6)] 1
 (.call 16 [(.v 6)] 1
 (.call 14 [(.v 20), (.v 21)] 1
 (.ite (.v 22)
 (.call 17 [(.v 6), (.v 3), (.v 4)] 1
 (.call 18 [(.v 6), (.v 3), (.v 4)] 1
 (.call 13 [(.v 23), (.v 24)] 1
 (.ite (.v 25)
 (.ite (.o .and (.o .eq (.v 7) (.v 13)) (.o .and (.o .eq (.v 8) (.v 14)) (.o .and (.o .eq (.v 9) (.v 15)) (.o .and (.o .eq (.v 10) (.v 16)) (.o .and (.o .eq (.v 11) (.v 17)) (.b true))))))
 (.ite (.o .eq (.v 12) (.v 18))
 (.call 8 [] 1
 (.leaf [(.v 26)]))
 (.leaf [(.b false)]))
 (.leaf [(.b false)]))
 (.leaf [(.b false)])))))
 (.leaf [(.b false)])))))
 (.leaf [(.b false)]))))))))
noncomputable def k_simulatorlaw46_SeriesTakes : Known Try.prog := known mixedOk [k_simulatorlaw46_awake, k_series_Of, k_simulatorref46_Of, k_series_Tally, k_simulatorref46_Tally, k_simulatorref46_Same, k_series_Values, k_simulatorref46_Values, k_simulatorlaw46_ints, k_series_Window, k_simulatorref46_Window] (by decide) [] plTypes plOk inFuncs insOk 6 ⟨3, [(.a (.row 57 [(.int .i64), (.int .i64), (.int .i64), (.int .i64), (.int .i64), (.int .i64)] true)), (.g [(.ck (.int .i64)), (.ck (.int .i64))]), (.g [(.ck (.int .i64)), (.ck (.int .i64))])], (.c (.a (.ck .bool)))⟩ (fun args w => Try.call3 args w) tk_simulatorlaw46_SeriesTakes (by kernel_rfl)
theorem k_simulatorlaw46_SeriesTakes_f : k_simulatorlaw46_SeriesTakes.con.f = 3 := rfl
theorem k_simulatorlaw46_SeriesTakes_F (l : List Sc) : k_simulatorlaw46_SeriesTakes.F l = if l.length = 5 then tk_simulatorlaw46_SeriesTakes.den (gam (P := Try.prog) [k_simulatorlaw46_awake, k_series_Of, k_simulatorref46_Of, k_series_Tally, k_simulatorref46_Tally, k_simulatorref46_Same, k_series_Values, k_simulatorref46_Values, k_simulatorlaw46_ints, k_series_Window, k_simulatorref46_Window]) l [] else none := rfl
def tk_simulatorlaw46_SeriesMoves : T (List Ex) :=
 (.ite (.o .lt (.i 200) (.u .len (.v 0)))
 (.call 8 [] 1
 (.leaf [(.v 2)]))
 (.call 19 [(.v 0), (.v 1)] 2
 (.call 20 [(.v 0), (.v 1)] 2
 (.call 21 [(.v 2), (.v 4)] 1
 (.ite (.v 6)
 (.ite (.o .eq (.v 3) (.v 5))
 (.call 8 [] 1
 (.leaf [(.v 7)]))
 (.leaf [(.b false)]))
 (.leaf [(.b false)]))))))
noncomputable def k_simulatorlaw46_SeriesMoves : Known Try.prog := known mixedOk [k_simulatorlaw46_awake, k_series_Moving, k_simulatorref46_Moving, k_simulatorref02_Same] (by decide) [] plTypes plOk inFuncs insOk 6 ⟨4, [(.a (.row 3 [(.int .i64)] false)), (.a (.ck (.int .i64)))], (.c (.a (.ck .bool)))⟩ (fun args w => Try.call4 args w) tk_simulatorlaw46_SeriesMoves (by kernel_rfl)
theorem k_simulatorlaw46_SeriesMoves_f : k_simulatorlaw46_SeriesMoves.con.f = 4 := rfl
theorem k_simulatorlaw46_SeriesMoves_F (l : List Sc) : k_simulatorlaw46_SeriesMoves.F l = if l.length = 2 then tk_simulatorlaw46_SeriesMoves.den (gam (P := Try.prog) [k_simulatorlaw46_awake, k_series_Moving, k_simulatorref46_Moving, k_simulatorref02_Same]) l [] else none := rfl
def tk_simulatorlaw46_SeriesWindows : T (List Ex) :=
 (.ite (.o .lt (.i 200) (.u .len (.v 0)))
 (.call 8 [] 1
 (.leaf [(.v 4)]))
 (.ite (.o .lt (.v 2) (.v 1))
 (.call 8 [] 1
 (.leaf [(.v 4)]))
 (.ite (.o .lt (.v 3) (.v 2))
 (.call 8 [] 1
 (.leaf [(.v 4)]))
 (.call 17 [(.v 0), (.v 1), (.v 2)] 1
 (.call 17 [(.v 0), (.v 2), (.v 3)] 1
 (.call 17 [(.v 0), (.v 1), (.v 3)] 1
 (.ite (.o .ne (.o (.add .i64) (.u .len (.v 4)) (.u .len (.v 5))) (.u .len (.v 6)))
 (.leaf [(.b false)])
 (.loop [(.i 1)]
 (.ite (.o .lt (.v 7) (.u .len (.v 0)))
 (.need (.o .le (.i 0) (.v 7)) (.need (.o .lt (.v 7) (.u .len (.v 0))) (.need (.o .le (.i 0) (.o (.sub .i64) (.v 7) (.i 1))) (.need (.o .lt (.o (.sub .i64) (.v 7) (.i 1)) (.u .len (.v 0))) (.ite (.o .lt (.u (.cell 0) (.o .idx (.v 0) (.v 7))) (.u (.cell 0) (.o .idx (.v 0) (.o (.sub .i64) (.v 7) (.i 1)))))
 (.call 8 [] 1
 (.leaf [(.v 8)]))
 (.next 0 [(.o (.add .i64) (.v 7) (.i 1))]))))))
 (.need (.o .le (.u .len (.v 4)) (.i 8796093022208)) (.need (.o .le (.u .len (.o .app (.v 4) (.v 5))) (.i 8796093022208)) (.call 13 [(.o .app (.v 4) (.v 5)), (.v 6)] 1
 (.ite (.v 8)
 (.call 8 [] 1
 (.leaf [(.v 9)]))
 (.leaf [(.b false)]))))))))))))))
noncomputable def k_simulatorlaw46_SeriesWindows : Known Try.prog := known mixedOk [k_simulatorlaw46_awake, k_series_Window, k_simulatorref46_Same] (by decide) [⟨500007, [(8, 0)], [53, 54, 55, 56, 59, 60, 61, 62, 63, 64, 65, 66, 67, 68, 69, 70, 71, 4, 57, 58], [], []⟩] plTypes plOk inFuncs insOk 6 ⟨5, [(.a (.row 45 [(.int .i64), (.int .i64)] true)), (.g [(.ck (.int .i64)), (.ck (.int .i64)), (.ck (.int .i64))])], (.c (.a (.ck .bool)))⟩ (fun args w => Try.call5 args w) tk_simulatorlaw46_SeriesWindows (by kernel_rfl)
theorem k_simulatorlaw46_SeriesWindows_f : k_simulatorlaw46_SeriesWindows.con.f = 5 := rfl
theorem k_simulatorlaw46_SeriesWindows_F (l : List Sc) : k_simulatorlaw46_SeriesWindows.F l = if l.length = 4 then tk_simulatorlaw46_SeriesWindows.den (gam (P := Try.prog) [k_simulatorlaw46_awake, k_series_Window, k_simulatorref46_Same]) l [] else none := rfl
def tk_simulatorlaw46_SeriesEnds : T (List Ex) :=
 (.call 22 [(.v 0)] 6
 (.ite (.o .lt (.u .len (.v 0)) (.i 1))
 (.call 8 [] 1
 (.leaf [(.v 7)]))
 (.ite (.o .lt (.i 100) (.u .len (.v 0)))
 (.call 8 [] 1
 (.leaf [(.v 7)]))
 (.ite (.o .ne (.v 6) (.i 0))
 (.call 8 [] 1
 (.leaf [(.v 7)]))
 (.call 19 [(.v 0), (.i 1)] 2
 (.call 19 [(.v 0), (.u .len (.v 0))] 2
 (.call 23 [(.v 1), (.v 2), (.v 3), (.v 4), (.v 5)] 3
 (.ite (.o .ne (.v 8) (.i 0))
 (.leaf [(.b false)])
 (.ite (.o .ne (.v 10) (.i 0))
 (.leaf [(.b false)])
 (.ite (.o .ne (.u .len (.v 7)) (.u .len (.v 0)))
 (.leaf [(.b false)])
 (.ite (.o .ne (.u .len (.v 9)) (.i 1))
 (.leaf [(.b false)])
 (.ite (.u .not (.v 13))
 (.leaf [(.b false)])
 (.need (.o .lt (.i 0) (.u .len (.v 9))) (.ite (.u .not (.o .and (.o .eq (.u (.cell 0) (.o .idx (.v 9) (.i 0))) (.v 11)) (.o .and (.o .eq (.u (.cell 1) (.o .idx (.v 9) (.i 0))) (.v 12)) (.b true))))
 (.leaf [(.b false)])
 (.loop [(.i 0)]
 (.ite (.o .lt (.v 14) (.u .len (.v 0)))
 (.need (.o .le (.i 0) (.v 14)) (.need (.o .lt (.v 14) (.u .len (.v 7))) (.need (.o .le (.i 0) (.v 14)) (.need (.o .lt (.v 14) (.u .len (.v 0))) (.ite (.u .not (.o .and (.o .eq (.u (.cell 0) (.o .idx (.v 7) (.v 14))) (.o .idx (.v 0) (.v 14))) (.o .and (.o .eq (.u (.cell 1) (.o .idx (.v 7) (.v 14))) (.i 1)) (.b true))))
 (.leaf [(.b false)])
 (.next 0 [(.o (.add .i64) (.v 14) (.i 1))]))))))
 (.call 8 [] 1
 (.leaf [(.v 15)]))))))))))))))))))
noncomputable def k_simulatorlaw46_SeriesEnds : Known Try.prog := known mixedOk [k_tally_Of, k_simulatorlaw46_awake, k_series_Moving, k_tally_Mean] (by decide) [⟨600010, [(11, 0)], [76, 77, 78, 79, 82, 83, 84, 85, 86, 87, 88, 89, 90, 91, 2, 80, 81], [], []⟩] plTypes plOk inFuncs insOk 6 ⟨6, [(.a (.row 3 [(.int .i64)] false))], (.c (.a (.ck .bool)))⟩ (fun args w => Try.call6 args w) tk_simulatorlaw46_SeriesEnds (by kernel_rfl)
theorem k_simulatorlaw46_SeriesEnds_f : k_simulatorlaw46_SeriesEnds.con.f = 6 := rfl
theorem k_simulatorlaw46_SeriesEnds_F (l : List Sc) : k_simulatorlaw46_SeriesEnds.F l = if l.length = 1 then tk_simulatorlaw46_SeriesEnds.den (gam (P := Try.prog) [k_tally_Of, k_simulatorlaw46_awake, k_series_Moving, k_tally_Mean]) l [] else none := rfl
def tk_simulatorlaw46_SeriesSteps : T (List Ex) :=
 (.ite (.o .lt (.i 200) (.u .len (.v 0)))
 (.call 8 [] 1
 (.leaf [(.v 2)]))
 (.call 19 [(.v 0), (.v 1)] 2
 (.ite (.o .ne (.v 3) (.i 0))
 (.ite (.o .eq (.u .len (.v 2)) (.i 0))
 (.call 8 [] 1
 (.leaf [(.v 4)]))
 (.leaf [(.b false)]))
 (.ite (.o .lt (.v 1) (.i 1))
 (.leaf [(.b false)])
 (.ite (.o .lt (.i 0) (.u .len (.v 2)))
 (.ite (.o .ne (.u .len (.v 2)) (.o (.add .i64) (.o (.sub .i64) (.u .len (.v 0)) (.v 1)) (.i 1)))
 (.leaf [(.b false)])
 (.loop [(.i 1)]
 (.ite (.o .lt (.v 4) (.u .len (.v 2)))
 (.need (.o .le (.i 0) (.v 4)) (.need (.o .lt (.v 4) (.u .len (.v 2))) (.need (.o .le (.i 0) (.o (.sub .i64) (.v 4) (.i 1))) (.need (.o .lt (.o (.sub .i64) (.v 4) (.i 1)) (.u .len (.v 2))) (.call 24 [(.u (.cell 0) (.o .idx (.v 2) (.v 4))), (.u (.cell 1) (.o .idx (.v 2) (.v 4))), (.u (.cell 0) (.o .idx (.v 2) (.o (.sub .i64) (.v 4) (.i 1)))), (.u (.cell 1) (.o .idx (.v 2) (.o (.sub .i64) (.v 4) (.i 1))))] 3
 (.need (.o .le (.i 0) (.o (.sub .i64) (.o (.add .i64) (.v 4) (.v 1)) (.i 1))) (.need (.o .lt (.o (.sub .i64) (.o (.add .i64) (.v 4) (.v 1)) (.i 1)) (.u .len (.v 0))) (.need (.o .le (.i 0) (.o (.sub .i64) (.v 4) (.i 1))) (.need (.o .lt (.o (.sub .i64) (.v 4) (.i 1)) (.u .len (.v 0))) (.call 25 [(.o (.sub .i64) (.o .idx (.v 0) (.o (.sub .i64) (.o (.add .i64) (.v 4) (.v 1)) (.i 1))) (.o .idx (.v 0) (.o (.sub .i64) (.v 4) (.i 1)))), (.v 1)] 3
 (.ite (.u .not (.v 7))
 (.leaf [(.b false)])
 (.ite (.u .not (.o .and (.o .eq (.v 5) (.v 8)) (.o .and (.o .eq (.v 6) (.v 9)) (.b true))))
 (.leaf [(.b false)])
 (.next 0 [(.o (.add .i64) (.v 4) (.i 1))])))))))))))))
 (.call 8 [] 1
 (.leaf [(.v 5)])))))
 (.loop [(.i 1)]
 (.ite (.o .lt (.v 4) (.u .len (.v 2)))
 (.need (.o .le (.i 0) (.v 4)) (.need (.o .lt (.v 4) (.u .len (.v 2))) (.need (.o .le (.i 0) (.o (.sub .i64) (.v 4) (.i 1))) (.need (.o .lt (.o (.sub .i64) (.v 4) (.i 1)) (.u .len (.v 2))) (.call 24 [(.u (.cell 0) (.o .idx (.v 2) (.v 4))), (.u (.cell 1) (.o .idx (.v 2) (.v 4))), (.u (.cell 0) (.o .idx (.v 2) (.o (.sub .i64) (.v 4) (.i 1)))), (.u (.cell 1) (.o .idx (.v 2) (.o (.sub .i64) (.v 4) (.i 1))))] 3
 (.need (.o .le (.i 0) (.o (.sub .i64) (.o (.add .i64) (.v 4) (.v 1)) (.i 1))) (.need (.o .lt (.o (.sub .i64) (.o (.add .i64) (.v 4) (.v 1)) (.i 1)) (.u .len (.v 0))) (.need (.o .le (.i 0) (.o (.sub .i64) (.v 4) (.i 1))) (.need (.o .lt (.o (.sub .i64) (.v 4) (.i 1)) (.u .len (.v 0))) (.call 25 [(.o (.sub .i64) (.o .idx (.v 0) (.o (.sub .i64) (.o (.add .i64) (.v 4) (.v 1)) (.i 1))) (.o .idx (.v 0) (.o (.sub .i64) (.v 4) (.i 1)))), (.v 1)] 3
 (.ite (.u .not (.v 7))
 (.leaf [(.b false)])
 (.ite (.u .not (.o .and (.o .eq (.v 5) (.v 8)) (.o .and (.o .eq (.v 6) (.v 9)) (.b true))))
 (.leaf [(.b false)])
 (.next 0 [(.o (.add .i64) (.v 4) (.i 1))])))))))))))))
 (.call 8 [] 1
 (.leaf [(.v 5)])))))))))
noncomputable def k_simulatorlaw46_SeriesSteps : Known Try.prog := known mixedOk [k_simulatorlaw46_awake, k_series_Moving, k_frac_Sub, k_simulatorref02_Of] (by decide) [⟨700009, [(7, 0)], [47, 48, 49, 50, 54, 55, 56, 57, 58, 59, 60, 61, 62, 63, 53, 64, 65, 8, 9, 67, 68, 69, 70, 71, 72, 73, 74, 75, 76, 77, 78, 79, 80, 81, 66, 82, 83, 10, 11, 84, 85, 86, 87, 88, 89, 90, 4, 51, 52], [], []⟩] plTypes plOk inFuncs insOk 6 ⟨7, [(.a (.row 3 [(.int .i64)] false)), (.a (.ck (.int .i64)))], (.c (.a (.ck .bool)))⟩ (fun args w => Try.call7 args w) tk_simulatorlaw46_SeriesSteps (by kernel_rfl)
theorem k_simulatorlaw46_SeriesSteps_f : k_simulatorlaw46_SeriesSteps.con.f = 7 := rfl
theorem k_simulatorlaw46_SeriesSteps_F (l : List Sc) : k_simulatorlaw46_SeriesSteps.F l = if l.length = 2 then tk_simulatorlaw46_SeriesSteps.den (gam (P := Try.prog) [k_simulatorlaw46_awake, k_series_Moving, k_frac_Sub, k_simulatorref02_Of]) l [] else none := rfl
end Go.Proofs.Ytfaghnapfkpdhaa
