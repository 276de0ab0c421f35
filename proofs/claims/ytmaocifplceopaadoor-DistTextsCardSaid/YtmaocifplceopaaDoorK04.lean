/-
  What the functions of this seat reckon: their trees, checked by the kernel. Printed by a program of mine.
-/
import Derived.Test.YtmaocifplceopaaDoorProg
import Derived.KernelRfl
import Derived.Test.YtmaocifplceopaaDoorSymX
import Derived.Test.YtmaocifplceopaaDoorExt
import Derived.Test.YtmaocifplceopaaDoorGlI
import Derived.Test.YtmaocifplceopaaDoorBld04
namespace Go.Proofs.YtmaocifplceopaaDoor
open Go.RowKit
def plTypes : List Nat := [7, 8, 24, 25, 28, 29, 44, 45, 58, 59, 76, 77, 78, 79, 133, 134]
theorem plOk : PlainTy Tryd.prog plTypes := by
  intro t ht
  have := hasN_mem.1 ht
  simp only [plTypes, List.mem_cons, List.not_mem_nil, or_false] at this
  rcases this with rfl | rfl | rfl | rfl | rfl | rfl | rfl | rfl | rfl | rfl | rfl | rfl | rfl | rfl | rfl | rfl
  · exact ⟨Tryd.stoodInHeld7, Tryd.eqGuardType7⟩
  · exact ⟨Tryd.stoodInHeld8, Tryd.eqGuardType8⟩
  · exact ⟨Tryd.stoodInHeld24, Tryd.eqGuardType24⟩
  · exact ⟨Tryd.stoodInHeld25, Tryd.eqGuardType25⟩
  · exact ⟨Tryd.stoodInHeld28, Tryd.eqGuardType28⟩
  · exact ⟨Tryd.stoodInHeld29, Tryd.eqGuardType29⟩
  · exact ⟨Tryd.stoodInHeld44, Tryd.eqGuardType44⟩
  · exact ⟨Tryd.stoodInHeld45, Tryd.eqGuardType45⟩
  · exact ⟨Tryd.stoodInHeld58, Tryd.eqGuardType58⟩
  · exact ⟨Tryd.stoodInHeld59, Tryd.eqGuardType59⟩
  · exact ⟨Tryd.stoodInHeld76, Tryd.eqGuardType76⟩
  · exact ⟨Tryd.stoodInHeld77, Tryd.eqGuardType77⟩
  · exact ⟨Tryd.stoodInHeld78, Tryd.eqGuardType78⟩
  · exact ⟨Tryd.stoodInHeld79, Tryd.eqGuardType79⟩
  · exact ⟨Tryd.stoodInHeld133, Tryd.eqGuardType133⟩
  · exact ⟨Tryd.stoodInHeld134, Tryd.eqGuardType134⟩
def inFuncs : List Nat := [39, 41, 60, 61, 65, 66, 76, 79, 88, 63, 42]
theorem insOk : ∀ f, hasN inFuncs f = true → ∀ args w, (callFunc f args).run Tryd.prog w = .ok (.enter f args) w := by
  intro f hf
  have := hasN_mem.1 hf
  simp only [inFuncs, List.mem_cons, List.not_mem_nil, or_false] at this
  rcases this with rfl | rfl | rfl | rfl | rfl | rfl | rfl | rfl | rfl | rfl | rfl
  · exact fun args w => Tryd.call39 args w
  · exact fun args w => Tryd.call41 args w
  · exact fun args w => Tryd.call60 args w
  · exact fun args w => Tryd.call61 args w
  · exact fun args w => Tryd.call65 args w
  · exact fun args w => Tryd.call66 args w
  · exact fun args w => Tryd.call76 args w
  · exact fun args w => Tryd.call79 args w
  · exact fun args w => Tryd.call88 args w
  · exact fun args w => Tryd.call63 args w
  · exact fun args w => Tryd.call42 args w
theorem mixedOk : Tryd.prog.follows .mixedOrders = true := by kernel_rfl
def tk_simulatorlaw04_short : T (List Ex) :=
 (.ite (.o .le (.u .len (.v 4)) (.i 100))
 (.leaf [(.o .le (.u .len (.v 5)) (.i 100))])
 (.leaf [(.b false)]))
noncomputable def k_simulatorlaw04_short : Known Tryd.prog := known mixedOk [] (by decide) [] plTypes plOk inFuncs insOk 6 ⟨10, [(.g [(.ck (.int .i64)), (.ck (.int .i64)), (.ck (.int .i64)), (.ck (.int .i64)), (.row 3 [(.int .i64)] false), (.row 3 [(.int .i64)] false)])], (.c (.a (.ck .bool)))⟩ (fun args w => Tryd.call10 args w) tk_simulatorlaw04_short (by kernel_rfl)
theorem k_simulatorlaw04_short_f : k_simulatorlaw04_short.con.f = 10 := rfl
theorem k_simulatorlaw04_short_F (l : List Sc) : k_simulatorlaw04_short.F l = if l.length = 6 then tk_simulatorlaw04_short.den (gam (P := Tryd.prog) []) l [] else none := rfl
def tk_dist_weight : T (List Ex) :=
 (.loop [(.i 0), (.i 0)]
 (.ite (.o .lt (.v 7) (.u .len (.v 5)))
 (.need (.o .le (.i 0) (.v 7)) (.need (.o .lt (.v 7) (.u .len (.v 5))) (.next 0 [(.o (.add .i64) (.v 6) (.o .idx (.v 5) (.v 7))), (.o (.add .i64) (.v 7) (.i 1))])))
 (.leaf [(.v 6)])))
noncomputable def k_dist_weight : Known Tryd.prog := known mixedOk [] (by decide) [⟨2900003, [(3, 0), (9, 0)], [10, 11, 12, 5, 13, 14, 15, 16], [], []⟩] plTypes plOk inFuncs insOk 6 ⟨29, [(.g [(.ck (.int .i64)), (.ck (.int .i64)), (.ck (.int .i64)), (.ck (.int .i64)), (.row 3 [(.int .i64)] false), (.row 3 [(.int .i64)] false)])], (.c (.a (.ck (.int .i64))))⟩ (fun args w => Tryd.call29 args w) tk_dist_weight (by kernel_rfl)
theorem k_dist_weight_f : k_dist_weight.con.f = 29 := rfl
theorem k_dist_weight_F (l : List Sc) : k_dist_weight.F l = if l.length = 6 then tk_dist_weight.den (gam (P := Tryd.prog) []) l [] else none := rfl
def tk_simulatorref04_Sum : T (List Ex) :=
 (.loop [(.i 0), (.i 0)]
 (.ite (.o .lt (.v 2) (.u .len (.v 0)))
 (.need (.o .le (.i 0) (.v 2)) (.need (.o .lt (.v 2) (.u .len (.v 0))) (.next 0 [(.o (.add .i64) (.v 1) (.o .idx (.v 0) (.v 2))), (.o (.add .i64) (.v 2) (.i 1))])))
 (.leaf [(.v 1)])))
noncomputable def k_simulatorref04_Sum : Known Tryd.prog := known mixedOk [] (by decide) [⟨3100003, [(3, 0), (4, 0)], [5, 6, 7, 8, 11, 12, 13, 14, 15, 16, 9, 10], [], []⟩] plTypes plOk inFuncs insOk 6 ⟨31, [(.a (.row 3 [(.int .i64)] false))], (.c (.a (.ck (.int .i64))))⟩ (fun args w => Tryd.call31 args w) tk_simulatorref04_Sum (by kernel_rfl)
theorem k_simulatorref04_Sum_f : k_simulatorref04_Sum.con.f = 31 := rfl
theorem k_simulatorref04_Sum_F (l : List Sc) : k_simulatorref04_Sum.F l = if l.length = 1 then tk_simulatorref04_Sum.den (gam (P := Tryd.prog) []) l [] else none := rfl
def tk_dist_unused : T (List Ex) :=
 (.ite (.o .eq (.v 0) (.i 1))
 (.ite (.o .eq (.o (.add .i64) (.u .len (.v 4)) (.u .len (.v 5))) (.i 0))
 (.ite (.o .eq (.v 2) (.i 0))
 (.leaf [(.o .eq (.v 3) (.i 0))])
 (.leaf [(.b false)]))
 (.leaf [(.b false)]))
 (.ite (.o .eq (.v 0) (.i 2))
 (.ite (.o .eq (.v 0) (.i 2))
 (.ite (.o .eq (.o (.add .i64) (.u .len (.v 4)) (.u .len (.v 5))) (.i 0))
 (.leaf [(.o .eq (.v 3) (.i 0))])
 (.leaf [(.b false)]))
 (.ite (.o .eq (.v 0) (.i 4))
 (.leaf [(.o .eq (.o (.add .i64) (.u .len (.v 4)) (.u .len (.v 5))) (.i 0))])
 (.ite (.o .eq (.v 0) (.i 3))
 (.ite (.o .eq (.v 1) (.i 0))
 (.ite (.o .eq (.v 2) (.i 0))
 (.leaf [(.o .eq (.v 3) (.i 0))])
 (.leaf [(.b false)]))
 (.leaf [(.b false)]))
 (.leaf [(.b false)]))))
 (.ite (.o .eq (.v 0) (.i 5))
 (.ite (.o .eq (.o (.add .i64) (.u .len (.v 4)) (.u .len (.v 5))) (.i 0))
 (.leaf [(.o .eq (.v 3) (.i 0))])
 (.leaf [(.b false)]))
 (.ite (.o .eq (.v 0) (.i 4))
 (.leaf [(.o .eq (.o (.add .i64) (.u .len (.v 4)) (.u .len (.v 5))) (.i 0))])
 (.ite (.o .eq (.v 0) (.i 3))
 (.ite (.o .eq (.v 1) (.i 0))
 (.ite (.o .eq (.v 2) (.i 0))
 (.leaf [(.o .eq (.v 3) (.i 0))])
 (.leaf [(.b false)]))
 (.leaf [(.b false)]))
 (.leaf [(.b false)]))))))
noncomputable def k_dist_unused : Known Tryd.prog := known mixedOk [] (by decide) [] plTypes plOk inFuncs insOk 6 ⟨32, [(.g [(.ck (.int .i64)), (.ck (.int .i64)), (.ck (.int .i64)), (.ck (.int .i64)), (.row 3 [(.int .i64)] false), (.row 3 [(.int .i64)] false)])], (.c (.a (.ck .bool)))⟩ (fun args w => Tryd.call32 args w) tk_dist_unused (by kernel_rfl)
theorem k_dist_unused_f : k_dist_unused.con.f = 32 := rfl
theorem k_dist_unused_F (l : List Sc) : k_dist_unused.F l = if l.length = 6 then tk_dist_unused.den (gam (P := Tryd.prog) []) l [] else none := rfl
def tk_dist_within : T (List Ex) :=
 (.loop [(.i 0)]
 (.ite (.o .lt (.v 3) (.u .len (.v 2)))
 (.need (.o .le (.i 0) (.v 3)) (.need (.o .lt (.v 3) (.u .len (.v 2))) (.ite (.o .lt (.o .idx (.v 2) (.v 3)) (.v 0))
 (.leaf [(.u .not (.o .le (.i 0) (.v 3)))])
 (.ite (.o .lt (.v 1) (.o .idx (.v 2) (.v 3)))
 (.leaf [(.u .not (.o .le (.i 0) (.v 3)))])
 (.next 0 [(.o (.add .i64) (.v 3) (.i 1))])))))
 (.leaf [(.b true)])))
noncomputable def k_dist_within : Known Tryd.prog := known mixedOk [] (by decide) [⟨7600002, [(8, 0)], [9, 10, 5, 11, 12, 13, 14, 15, 16, 17, 4, 18], [], []⟩] plTypes plOk inFuncs insOk 6 ⟨33, [(.a (.ck (.int .i64))), (.a (.ck (.int .i64))), (.a (.row 3 [(.int .i64)] false))], (.c (.a (.ck .bool)))⟩ (fun args w => Tryd.call33 args w) tk_dist_within (by kernel_rfl)
theorem k_dist_within_f : k_dist_within.con.f = 33 := rfl
theorem k_dist_within_F (l : List Sc) : k_dist_within.F l = if l.length = 3 then tk_dist_within.den (gam (P := Tryd.prog) []) l [] else none := rfl
def tk_simulatorref04_unused : T (List Ex) :=
 (.ite (.o .eq (.u .len (.v 4)) (.i 0))
 (.ite (.o .eq (.v 0) (.i 1))
 (.ite (.o .eq (.v 2) (.i 0))
 (.ite (.o .eq (.v 3) (.i 0))
 (.leaf [(.o .eq (.u .len (.v 5)) (.i 0))])
 (.leaf [(.b false)]))
 (.leaf [(.b false)]))
 (.ite (.o .eq (.v 0) (.i 2))
 (.ite (.o .eq (.v 0) (.i 2))
 (.ite (.o .eq (.v 3) (.i 0))
 (.leaf [(.o .eq (.u .len (.v 5)) (.i 0))])
 (.leaf [(.b false)]))
 (.ite (.o .eq (.v 0) (.i 3))
 (.ite (.o .eq (.v 1) (.i 0))
 (.ite (.o .eq (.v 2) (.i 0))
 (.leaf [(.o .eq (.v 3) (.i 0))])
 (.leaf [(.b false)]))
 (.leaf [(.b false)]))
 (.ite (.o .eq (.v 0) (.i 4))
 (.leaf [(.o .eq (.u .len (.v 5)) (.i 0))])
 (.leaf [(.b false)]))))
 (.ite (.o .eq (.v 0) (.i 5))
 (.ite (.o .eq (.v 3) (.i 0))
 (.leaf [(.o .eq (.u .len (.v 5)) (.i 0))])
 (.leaf [(.b false)]))
 (.ite (.o .eq (.v 0) (.i 3))
 (.ite (.o .eq (.v 1) (.i 0))
 (.ite (.o .eq (.v 2) (.i 0))
 (.leaf [(.o .eq (.v 3) (.i 0))])
 (.leaf [(.b false)]))
 (.leaf [(.b false)]))
 (.ite (.o .eq (.v 0) (.i 4))
 (.leaf [(.o .eq (.u .len (.v 5)) (.i 0))])
 (.leaf [(.b false)]))))))
 (.ite (.o .eq (.v 0) (.i 1))
 (.ite (.o .eq (.v 2) (.i 0))
 (.ite (.o .eq (.v 3) (.i 0))
 (.leaf [(.b false)])
 (.leaf [(.b false)]))
 (.leaf [(.b false)]))
 (.ite (.o .eq (.v 0) (.i 2))
 (.ite (.o .eq (.v 0) (.i 2))
 (.ite (.o .eq (.v 3) (.i 0))
 (.leaf [(.b false)])
 (.leaf [(.b false)]))
 (.ite (.o .eq (.v 0) (.i 3))
 (.ite (.o .eq (.v 1) (.i 0))
 (.ite (.o .eq (.v 2) (.i 0))
 (.leaf [(.o .eq (.v 3) (.i 0))])
 (.leaf [(.b false)]))
 (.leaf [(.b false)]))
 (.ite (.o .eq (.v 0) (.i 4))
 (.leaf [(.b false)])
 (.leaf [(.b false)]))))
 (.ite (.o .eq (.v 0) (.i 5))
 (.ite (.o .eq (.v 3) (.i 0))
 (.leaf [(.b false)])
 (.leaf [(.b false)]))
 (.ite (.o .eq (.v 0) (.i 3))
 (.ite (.o .eq (.v 1) (.i 0))
 (.ite (.o .eq (.v 2) (.i 0))
 (.leaf [(.o .eq (.v 3) (.i 0))])
 (.leaf [(.b false)]))
 (.leaf [(.b false)]))
 (.ite (.o .eq (.v 0) (.i 4))
 (.leaf [(.b false)])
 (.leaf [(.b false)])))))))
noncomputable def k_simulatorref04_unused : Known Tryd.prog := known mixedOk [] (by decide) [] plTypes plOk inFuncs insOk 6 ⟨34, [(.g [(.ck (.int .i64)), (.ck (.int .i64)), (.ck (.int .i64)), (.ck (.int .i64)), (.row 3 [(.int .i64)] false), (.row 3 [(.int .i64)] false)])], (.c (.a (.ck .bool)))⟩ (fun args w => Tryd.call34 args w) tk_simulatorref04_unused (by kernel_rfl)
theorem k_simulatorref04_unused_f : k_simulatorref04_unused.con.f = 34 := rfl
theorem k_simulatorref04_unused_F (l : List Sc) : k_simulatorref04_unused.F l = if l.length = 6 then tk_simulatorref04_unused.den (gam (P := Tryd.prog) []) l [] else none := rfl
def tk_simulatorref04_between : T (List Ex) :=
 (.ite (.o .le (.v 1) (.v 0))
 (.leaf [(.o .le (.v 0) (.v 2))])
 (.leaf [(.b false)]))
noncomputable def k_simulatorref04_between : Known Tryd.prog := known mixedOk [] (by decide) [] plTypes plOk inFuncs insOk 6 ⟨35, [(.a (.ck (.int .i64))), (.a (.ck (.int .i64))), (.a (.ck (.int .i64)))], (.c (.a (.ck .bool)))⟩ (fun args w => Tryd.call35 args w) tk_simulatorref04_between (by kernel_rfl)
theorem k_simulatorref04_between_f : k_simulatorref04_between.con.f = 35 := rfl
theorem k_simulatorref04_between_F (l : List Sc) : k_simulatorref04_between.F l = if l.length = 3 then tk_simulatorref04_between.den (gam (P := Tryd.prog) []) l [] else none := rfl
def tk_simulatorref04_table : T (List Ex) :=
 (.ite (.o .ne (.u .len (.v 4)) (.u .len (.v 5)))
 (.leaf [(.i 8)])
 (.ite (.o .eq (.u .len (.v 4)) (.i 0))
 (.leaf [(.i 7)])
 (.ite (.o .lt (.i 20) (.u .len (.v 4)))
 (.leaf [(.i 6)])
 (.loop [(.i 0)]
 (.ite (.o .lt (.v 6) (.u .len (.v 4)))
 (.need (.o .le (.i 0) (.v 6)) (.need (.o .lt (.v 6) (.u .len (.v 4))) (.call 35 [(.o .idx (.v 4) (.v 6)), (.i 0), (.i 1000000000)] 1
 (.ite (.u .not (.v 7))
 (.leaf [(.i 2)])
 (.need (.o .le (.i 0) (.v 6)) (.need (.o .lt (.v 6) (.u .len (.v 5))) (.call 35 [(.o .idx (.v 5) (.v 6)), (.i 1), (.i 1000)] 1
 (.ite (.u .not (.v 8))
 (.leaf [(.i 2)])
 (.next 0 [(.o (.add .i64) (.v 6) (.i 1))])))))))))
 (.leaf [(.i 0)]))))))
noncomputable def k_simulatorref04_table : Known Tryd.prog := known mixedOk [k_simulatorref04_between] (by decide) [⟨3600008, [(3, 0)], [19, 20, 21, 22, 23, 26, 27, 28, 29, 30, 31, 32, 33, 34, 35, 36, 37, 38, 39, 40, 41, 2, 24, 25], [], []⟩] plTypes plOk inFuncs insOk 6 ⟨36, [(.g [(.ck (.int .i64)), (.ck (.int .i64)), (.ck (.int .i64)), (.ck (.int .i64)), (.row 3 [(.int .i64)] false), (.row 3 [(.int .i64)] false)])], (.c (.a (.ck (.int .i64))))⟩ (fun args w => Tryd.call36 args w) tk_simulatorref04_table (by kernel_rfl)
theorem k_simulatorref04_table_f : k_simulatorref04_table.con.f = 36 := rfl
theorem k_simulatorref04_table_F (l : List Sc) : k_simulatorref04_table.F l = if l.length = 6 then tk_simulatorref04_table.den (gam (P := Tryd.prog) [k_simulatorref04_between]) l [] else none := rfl
def tk_slices_Equal___int_int_ : T (List Ex) :=
 (.ite (.o .ne (.u .len (.v 0)) (.u .len (.v 1)))
 (.leaf [(.b false)])
 (.loop [(.i 0)]
 (.ite (.o .lt (.v 2) (.u .len (.v 0)))
 (.need (.o .le (.i 0) (.v 2)) (.need (.o .lt (.v 2) (.u .len (.v 0))) (.need (.o .le (.i 0) (.v 2)) (.need (.o .lt (.v 2) (.u .len (.v 1))) (.ite (.o .ne (.o .idx (.v 0) (.v 2)) (.o .idx (.v 1) (.v 2)))
 (.leaf [(.b false)])
 (.next 0 [(.o (.add .i64) (.v 2) (.i 1))]))))))
 (.leaf [(.b true)]))))
noncomputable def k_slices_Equal___int_int_ : Known Tryd.prog := known mixedOk [] (by decide) [⟨3700004, [(13, 0)], [14, 15, 5, 16, 17, 18, 19, 20, 21, 22, 23, 24, 4, 25], [], []⟩] plTypes plOk inFuncs insOk 6 ⟨37, [(.a (.row 3 [(.int .i64)] false)), (.a (.row 3 [(.int .i64)] false))], (.c (.a (.ck .bool)))⟩ (fun args w => Tryd.call37 args w) tk_slices_Equal___int_int_ (by kernel_rfl)
theorem k_slices_Equal___int_int__f : k_slices_Equal___int_int_.con.f = 37 := rfl
theorem k_slices_Equal___int_int__F (l : List Sc) : k_slices_Equal___int_int_.F l = if l.length = 2 then tk_slices_Equal___int_int_.den (gam (P := Tryd.prog) []) l [] else none := rfl
def tk_simulatorref04_sameInts : T (List Ex) :=
 (.ite (.o .ne (.u .len (.v 0)) (.u .len (.v 1)))
 (.leaf [(.b false)])
 (.loop [(.i 0)]
 (.ite (.o .lt (.v 2) (.u .len (.v 0)))
 (.need (.o .le (.i 0) (.v 2)) (.need (.o .lt (.v 2) (.u .len (.v 0))) (.need (.o .le (.i 0) (.v 2)) (.need (.o .lt (.v 2) (.u .len (.v 1))) (.ite (.o .ne (.o .idx (.v 0) (.v 2)) (.o .idx (.v 1) (.v 2)))
 (.leaf [(.b false)])
 (.next 0 [(.o (.add .i64) (.v 2) (.i 1))]))))))
 (.leaf [(.b true)]))))
noncomputable def k_simulatorref04_sameInts : Known Tryd.prog := known mixedOk [] (by decide) [⟨3800004, [(5, 0)], [11, 12, 13, 14, 17, 18, 19, 20, 21, 22, 23, 24, 25, 4, 15, 16], [], []⟩] plTypes plOk inFuncs insOk 6 ⟨38, [(.a (.row 3 [(.int .i64)] false)), (.a (.row 3 [(.int .i64)] false))], (.c (.a (.ck .bool)))⟩ (fun args w => Tryd.call38 args w) tk_simulatorref04_sameInts (by kernel_rfl)
theorem k_simulatorref04_sameInts_f : k_simulatorref04_sameInts.con.f = 38 := rfl
theorem k_simulatorref04_sameInts_F (l : List Sc) : k_simulatorref04_sameInts.F l = if l.length = 2 then tk_simulatorref04_sameInts.den (gam (P := Tryd.prog) []) l [] else none := rfl
def tk_num_Text : T (List Ex) :=
 (.call 62 [(.v 0)] 1
 (.leaf [(.v 1)]))
noncomputable def k_num_Text : Known Tryd.prog := known mixedOk [k_strconv_Itoa] (by decide) [] plTypes plOk inFuncs insOk 6 ⟨40, [(.a (.ck (.int .i64)))], (.c (.a (.ck .str)))⟩ (fun args w => Tryd.call40 args w) tk_num_Text (by kernel_rfl)
theorem k_num_Text_f : k_num_Text.con.f = 40 := rfl
theorem k_num_Text_F (l : List Sc) : k_num_Text.F l = if l.length = 1 then tk_num_Text.den (gam (P := Tryd.prog) [k_strconv_Itoa]) l [] else none := rfl
def tk_simulatorref01_Text : T (List Ex) :=
 (.ite (.o .le (.i 0) (.v 0))
 (.ite (.o .lt (.v 0) (.i 10))
 (.need (.o .le (.i 0) (.v 0)) (.need (.o .le (.v 0) (.o (.add .i64) (.v 0) (.i 1))) (.need (.o .le (.o (.add .i64) (.v 0) (.i 1)) (.u .slen (.s [48, 49, 50, 51, 52, 53, 54, 55, 56, 57]))) (.leaf [(.t .ssub (.s [48, 49, 50, 51, 52, 53, 54, 55, 56, 57]) (.v 0) (.o (.add .i64) (.v 0) (.i 1)))]))))
 (.ite (.o .lt (.i 0) (.v 0))
 (.call 43 [(.o (.quo .i64) (.v 0) (.i 10))] 1
 (.call 43 [(.o (.rem .i64) (.v 0) (.i 10))] 1
 (.need (.o .le (.u .slen (.o .cat (.v 1) (.v 2))) (.i 9223372036854775807)) (.leaf [(.o .cat (.v 1) (.v 2))]))))
 (.ite (.o .lt (.i (-10)) (.v 0))
 (.call 43 [(.o (.sub .i64) (.i 0) (.v 0))] 1
 (.need (.o .le (.u .slen (.o .cat (.s [45]) (.v 1))) (.i 9223372036854775807)) (.leaf [(.o .cat (.s [45]) (.v 1))])))
 (.call 43 [(.o (.quo .i64) (.v 0) (.i 10))] 1
 (.call 43 [(.o (.sub .i64) (.i 0) (.o (.rem .i64) (.v 0) (.i 10)))] 1
 (.need (.o .le (.u .slen (.o .cat (.v 1) (.v 2))) (.i 9223372036854775807)) (.leaf [(.o .cat (.v 1) (.v 2))])))))))
 (.ite (.o .lt (.i 0) (.v 0))
 (.call 43 [(.o (.quo .i64) (.v 0) (.i 10))] 1
 (.call 43 [(.o (.rem .i64) (.v 0) (.i 10))] 1
 (.need (.o .le (.u .slen (.o .cat (.v 1) (.v 2))) (.i 9223372036854775807)) (.leaf [(.o .cat (.v 1) (.v 2))]))))
 (.ite (.o .lt (.i (-10)) (.v 0))
 (.call 43 [(.o (.sub .i64) (.i 0) (.v 0))] 1
 (.need (.o .le (.u .slen (.o .cat (.s [45]) (.v 1))) (.i 9223372036854775807)) (.leaf [(.o .cat (.s [45]) (.v 1))])))
 (.call 43 [(.o (.quo .i64) (.v 0) (.i 10))] 1
 (.call 43 [(.o (.sub .i64) (.i 0) (.o (.rem .i64) (.v 0) (.i 10)))] 1
 (.need (.o .le (.u .slen (.o .cat (.v 1) (.v 2))) (.i 9223372036854775807)) (.leaf [(.o .cat (.v 1) (.v 2))])))))))
noncomputable def k_simulatorref01_Text_rec0 : Nat → {k : Known Tryd.prog // k.con = ⟨43, [(.a (.ck (.int .i64)))], (.c (.a (.ck .str)))⟩} := knownRec mixedOk [] ⟨43, [(.a (.ck (.int .i64)))], (.c (.a (.ck .str)))⟩ (by decide) [] plTypes plOk inFuncs insOk 6 (fun args w => Tryd.call43 args w) tk_simulatorref01_Text (by kernel_rfl)
noncomputable def k_simulatorref01_Text_rec (n : Nat) : Known Tryd.prog := (k_simulatorref01_Text_rec0 n).1
theorem k_simulatorref01_Text_rec_con (n : Nat) : (k_simulatorref01_Text_rec n).con = ⟨43, [(.a (.ck (.int .i64)))], (.c (.a (.ck .str)))⟩ := (k_simulatorref01_Text_rec0 n).2
theorem k_simulatorref01_Text_rec_f (n : Nat) : (k_simulatorref01_Text_rec n).con.f = 43 := by rw [k_simulatorref01_Text_rec_con]
theorem k_simulatorref01_Text_rec_F (n : Nat) (l : List Sc) : (k_simulatorref01_Text_rec (n + 1)).F l = if l.length = 1 then tk_simulatorref01_Text.den (gam (P := Tryd.prog) (k_simulatorref01_Text_rec n :: [])) l [] else none := rfl
noncomputable def k_simulatorref01_Text : Known Tryd.prog := ⟨⟨43, [(.a (.ck (.int .i64)))], (.c (.a (.ck .str)))⟩, (k_simulatorref01_Text_rec rounds).F, by rw [← k_simulatorref01_Text_rec_con rounds]; exact (k_simulatorref01_Text_rec rounds).holds⟩
theorem k_simulatorref01_Text_f : k_simulatorref01_Text.con.f = 43 := rfl
theorem k_simulatorref01_Text_F (l : List Sc) : k_simulatorref01_Text.F l = (k_simulatorref01_Text_rec rounds).F l := rfl
def tk_simulatorref04_geometric : T (List Ex) :=
 (.loop [(.i 18446744073709551615), (.i 1)]
 (.ite (.o .lt (.v 4) (.v 1))
 (.need (.o .ne (.u (.conv .u64) (.v 0)) (.i 0)) (.need (.o .ne (.u (.conv .u64) (.v 0)) (.i 0)) (.ite (.o .ne (.o (.rem .u64) (.v 3) (.u (.conv .u64) (.v 0))) (.i 0))
 (.ite (.o .le (.o (.sub .u64) (.v 3) (.o (.add .u64) (.o (.quo .u64) (.v 3) (.u (.conv .u64) (.v 0))) (.i 1))) (.o (.bxor .u64) (.i 18446744073709551615) (.v 2)))
 (.leaf [(.v 4)])
 (.next 0 [(.o (.sub .u64) (.v 3) (.o (.add .u64) (.o (.quo .u64) (.v 3) (.u (.conv .u64) (.v 0))) (.i 1))), (.o (.add .i64) (.v 4) (.i 1))]))
 (.ite (.o .le (.o (.sub .u64) (.v 3) (.o (.quo .u64) (.v 3) (.u (.conv .u64) (.v 0)))) (.o (.bxor .u64) (.i 18446744073709551615) (.v 2)))
 (.leaf [(.v 4)])
 (.next 0 [(.o (.sub .u64) (.v 3) (.o (.quo .u64) (.v 3) (.u (.conv .u64) (.v 0)))), (.o (.add .i64) (.v 4) (.i 1))])))))
 (.leaf [(.v 1)])))
noncomputable def k_simulatorref04_geometric : Known Tryd.prog := known mixedOk [] (by decide) [⟨4900004, [(8, 0), (10, 0)], [16, 17, 18, 21, 22, 23, 11, 24, 25, 26, 27, 28, 29, 30, 31, 32, 33, 34, 35, 36, 6, 19, 20], [], []⟩] plTypes plOk inFuncs insOk 6 ⟨49, [(.a (.ck (.int .i64))), (.a (.ck (.int .i64))), (.a (.ck (.int .u64)))], (.c (.a (.ck (.int .i64))))⟩ (fun args w => Tryd.call49 args w) tk_simulatorref04_geometric (by kernel_rfl)
theorem k_simulatorref04_geometric_f : k_simulatorref04_geometric.con.f = 49 := rfl
theorem k_simulatorref04_geometric_F (l : List Sc) : k_simulatorref04_geometric.F l = if l.length = 3 then tk_simulatorref04_geometric.den (gam (P := Tryd.prog) []) l [] else none := rfl
def tk_stream_Check : T (List Ex) :=
 (.ite (.o .lt (.v 1) (.i 0))
 (.leaf [(.i 2)])
 (.ite (.o .lt (.i 1000000000000) (.v 1))
 (.leaf [(.i 2)])
 (.leaf [(.i 0)])))
noncomputable def k_stream_Check : Known Tryd.prog := known mixedOk [] (by decide) [] plTypes plOk inFuncs insOk 6 ⟨51, [(.g [(.ck (.int .u64)), (.ck (.int .i64)), (.ck .bool)])], (.c (.a (.ck (.int .i64))))⟩ (fun args w => Tryd.call51 args w) tk_stream_Check (by kernel_rfl)
theorem k_stream_Check_f : k_stream_Check.con.f = 51 := rfl
theorem k_stream_Check_F (l : List Sc) : k_stream_Check.F l = if l.length = 3 then tk_stream_Check.den (gam (P := Tryd.prog) []) l [] else none := rfl
def tk_simulatorref03_Check : T (List Ex) :=
 (.ite (.o .lt (.v 1) (.i 0))
 (.leaf [(.i 2)])
 (.ite (.o .lt (.i 1000000000000) (.v 1))
 (.leaf [(.i 2)])
 (.leaf [(.i 0)])))
noncomputable def k_simulatorref03_Check : Known Tryd.prog := known mixedOk [] (by decide) [] plTypes plOk inFuncs insOk 6 ⟨53, [(.g [(.ck (.int .u64)), (.ck (.int .i64)), (.ck .bool)])], (.c (.a (.ck (.int .i64))))⟩ (fun args w => Tryd.call53 args w) tk_simulatorref03_Check (by kernel_rfl)
theorem k_simulatorref03_Check_f : k_simulatorref03_Check.con.f = 53 := rfl
theorem k_simulatorref03_Check_F (l : List Sc) : k_simulatorref03_Check.F l = if l.length = 3 then tk_simulatorref03_Check.den (gam (P := Tryd.prog) []) l [] else none := rfl
def tk_frac_gcd : T (List Ex) :=
 (.loop [(.v 0), (.v 1)]
 (.ite (.o .ne (.v 3) (.i 0))
 (.need (.o .ne (.v 3) (.i 0)) (.next 0 [(.v 3), (.o (.rem .u64) (.v 2) (.v 3))]))
 (.leaf [(.v 2)])))
noncomputable def k_frac_gcd : Known Tryd.prog := known mixedOk [] (by decide) [⟨5500001, [(0, 0), (1, 0)], [5, 6, 7, 8, 9, 10], [], []⟩] plTypes plOk inFuncs insOk 6 ⟨55, [(.a (.ck (.int .u64))), (.a (.ck (.int .u64)))], (.c (.a (.ck (.int .u64))))⟩ (fun args w => Tryd.call55 args w) tk_frac_gcd (by kernel_rfl)
theorem k_frac_gcd_f : k_frac_gcd.con.f = 55 := rfl
theorem k_frac_gcd_F (l : List Sc) : k_frac_gcd.F l = if l.length = 2 then tk_frac_gcd.den (gam (P := Tryd.prog) []) l [] else none := rfl
def tk_frac_size : T (List Ex) :=
 (.ite (.o .lt (.v 0) (.i 0))
 (.leaf [(.o (.sub .u64) (.i 0) (.u (.conv .u64) (.v 0)))])
 (.leaf [(.u (.conv .u64) (.v 0))]))
noncomputable def k_frac_size : Known Tryd.prog := known mixedOk [] (by decide) [] plTypes plOk inFuncs insOk 6 ⟨56, [(.a (.ck (.int .i64)))], (.c (.a (.ck (.int .u64))))⟩ (fun args w => Tryd.call56 args w) tk_frac_size (by kernel_rfl)
theorem k_frac_size_f : k_frac_size.con.f = 56 := rfl
theorem k_frac_size_F (l : List Sc) : k_frac_size.F l = if l.length = 1 then tk_frac_size.den (gam (P := Tryd.prog) []) l [] else none := rfl
def tk_frac_made : T (List Ex) :=
 (.ite (.o .lt (.i 4611686018427387904) (.v 1))
 (.leaf [(.i 0), (.i 0), (.b false)])
 (.ite (.o .lt (.i 1000000000000000) (.v 2))
 (.leaf [(.i 0), (.i 0), (.b false)])
 (.ite (.v 0)
 (.leaf [(.o (.sub .i64) (.i 0) (.u (.conv .i64) (.v 1))), (.u (.conv .i64) (.v 2)), (.b true)])
 (.leaf [(.u (.conv .i64) (.v 1)), (.u (.conv .i64) (.v 2)), (.b true)]))))
noncomputable def k_frac_made : Known Tryd.prog := known mixedOk [] (by decide) [] plTypes plOk inFuncs insOk 6 ⟨57, [(.a (.ck .bool)), (.a (.ck (.int .u64))), (.a (.ck (.int .u64)))], (.t [(.g [(.ck (.int .i64)), (.ck (.int .i64))]), (.a (.ck .bool))])⟩ (fun args w => Tryd.call57 args w) tk_frac_made (by kernel_rfl)
theorem k_frac_made_f : k_frac_made.con.f = 57 := rfl
theorem k_frac_made_F (l : List Sc) : k_frac_made.F l = if l.length = 3 then tk_frac_made.den (gam (P := Tryd.prog) []) l [] else none := rfl
def tk_simulatorref02_Size : T (List Ex) :=
 (.ite (.o .lt (.v 0) (.i 0))
 (.leaf [(.o (.add .u64) (.u (.conv .u64) (.o (.sub .i64) (.i 0) (.o (.add .i64) (.v 0) (.i 1)))) (.i 1))])
 (.leaf [(.u (.conv .u64) (.v 0))]))
noncomputable def k_simulatorref02_Size : Known Tryd.prog := known mixedOk [] (by decide) [] plTypes plOk inFuncs insOk 6 ⟨59, [(.a (.ck (.int .i64)))], (.c (.a (.ck (.int .u64))))⟩ (fun args w => Tryd.call59 args w) tk_simulatorref02_Size (by kernel_rfl)
theorem k_simulatorref02_Size_f : k_simulatorref02_Size.con.f = 59 := rfl
theorem k_simulatorref02_Size_F (l : List Sc) : k_simulatorref02_Size.F l = if l.length = 1 then tk_simulatorref02_Size.den (gam (P := Tryd.prog) []) l [] else none := rfl
def tk_bits_Mul64 : T (List Ex) :=
 (.leaf [(.o (.add .u64) (.o (.add .u64) (.o (.mul .u64) (.o (.shr .u64) (.v 0) (.i 32)) (.o (.shr .u64) (.v 1) (.i 32))) (.o (.shr .u64) (.o (.add .u64) (.o (.mul .u64) (.o (.shr .u64) (.v 0) (.i 32)) (.o (.band .u64) (.v 1) (.i 4294967295))) (.o (.shr .u64) (.o (.mul .u64) (.o (.band .u64) (.v 0) (.i 4294967295)) (.o (.band .u64) (.v 1) (.i 4294967295))) (.i 32))) (.i 32))) (.o (.shr .u64) (.o (.add .u64) (.o (.band .u64) (.o (.add .u64) (.o (.mul .u64) (.o (.shr .u64) (.v 0) (.i 32)) (.o (.band .u64) (.v 1) (.i 4294967295))) (.o (.shr .u64) (.o (.mul .u64) (.o (.band .u64) (.v 0) (.i 4294967295)) (.o (.band .u64) (.v 1) (.i 4294967295))) (.i 32))) (.i 4294967295)) (.o (.mul .u64) (.o (.band .u64) (.v 0) (.i 4294967295)) (.o (.shr .u64) (.v 1) (.i 32)))) (.i 32))), (.o (.mul .u64) (.v 0) (.v 1))])
noncomputable def k_bits_Mul64 : Known Tryd.prog := known mixedOk [] (by decide) [] plTypes plOk inFuncs insOk 6 ⟨64, [(.a (.ck (.int .u64))), (.a (.ck (.int .u64)))], (.t [(.a (.ck (.int .u64))), (.a (.ck (.int .u64)))])⟩ (fun args w => Tryd.call64 args w) tk_bits_Mul64 (by kernel_rfl)
theorem k_bits_Mul64_f : k_bits_Mul64.con.f = 64 := rfl
theorem k_bits_Mul64_F (l : List Sc) : k_bits_Mul64.F l = if l.length = 2 then tk_bits_Mul64.den (gam (P := Tryd.prog) []) l [] else none := rfl
def tk_simulatorref04_Upper : T (List Ex) :=
 (.leaf [(.o (.add .u64) (.o (.add .u64) (.o (.mul .u64) (.o (.shr .u64) (.v 0) (.i 32)) (.o (.shr .u64) (.v 1) (.i 32))) (.o (.shr .u64) (.o (.add .u64) (.o (.mul .u64) (.o (.shr .u64) (.v 0) (.i 32)) (.o (.band .u64) (.v 1) (.i 4294967295))) (.o (.shr .u64) (.o (.mul .u64) (.o (.band .u64) (.v 0) (.i 4294967295)) (.o (.band .u64) (.v 1) (.i 4294967295))) (.i 32))) (.i 32))) (.o (.shr .u64) (.o (.add .u64) (.o (.mul .u64) (.o (.band .u64) (.v 0) (.i 4294967295)) (.o (.shr .u64) (.v 1) (.i 32))) (.o (.band .u64) (.o (.add .u64) (.o (.mul .u64) (.o (.shr .u64) (.v 0) (.i 32)) (.o (.band .u64) (.v 1) (.i 4294967295))) (.o (.shr .u64) (.o (.mul .u64) (.o (.band .u64) (.v 0) (.i 4294967295)) (.o (.band .u64) (.v 1) (.i 4294967295))) (.i 32))) (.i 4294967295))) (.i 32)))])
noncomputable def k_simulatorref04_Upper : Known Tryd.prog := known mixedOk [] (by decide) [] plTypes plOk inFuncs insOk 6 ⟨69, [(.a (.ck (.int .u64))), (.a (.ck (.int .u64)))], (.c (.a (.ck (.int .u64))))⟩ (fun args w => Tryd.call69 args w) tk_simulatorref04_Upper (by kernel_rfl)
theorem k_simulatorref04_Upper_f : k_simulatorref04_Upper.con.f = 69 := rfl
theorem k_simulatorref04_Upper_F (l : List Sc) : k_simulatorref04_Upper.F l = if l.length = 2 then tk_simulatorref04_Upper.den (gam (P := Tryd.prog) []) l [] else none := rfl
def tk_stream_ended : T (List Ex) :=
 (.call 51 [(.v 0), (.v 1), (.v 2)] 1
 (.ite (.o .ne (.v 3) (.i 0))
 (.leaf [(.b true)])
 (.leaf [(.o .eq (.v 1) (.i 1000000000000))])))
noncomputable def k_stream_ended : Known Tryd.prog := known mixedOk [k_stream_Check] (by decide) [] plTypes plOk inFuncs insOk 6 ⟨70, [(.g [(.ck (.int .u64)), (.ck (.int .i64)), (.ck .bool)])], (.c (.a (.ck .bool)))⟩ (fun args w => Tryd.call70 args w) tk_stream_ended (by kernel_rfl)
theorem k_stream_ended_f : k_stream_ended.con.f = 70 := rfl
theorem k_stream_ended_F (l : List Sc) : k_stream_ended.F l = if l.length = 3 then tk_stream_ended.den (gam (P := Tryd.prog) [k_stream_Check]) l [] else none := rfl
def tk_simulatorref03_ends : T (List Ex) :=
 (.call 53 [(.v 0), (.v 1), (.v 2)] 1
 (.ite (.o .ne (.v 3) (.i 0))
 (.leaf [(.b true)])
 (.leaf [(.o .eq (.v 1) (.i 1000000000000))])))
noncomputable def k_simulatorref03_ends : Known Tryd.prog := known mixedOk [k_simulatorref03_Check] (by decide) [] plTypes plOk inFuncs insOk 6 ⟨72, [(.g [(.ck (.int .u64)), (.ck (.int .i64)), (.ck .bool)])], (.c (.a (.ck .bool)))⟩ (fun args w => Tryd.call72 args w) tk_simulatorref03_ends (by kernel_rfl)
theorem k_simulatorref03_ends_f : k_simulatorref03_ends.con.f = 72 := rfl
theorem k_simulatorref03_ends_F (l : List Sc) : k_simulatorref03_ends.F l = if l.length = 3 then tk_simulatorref03_ends.den (gam (P := Tryd.prog) [k_simulatorref03_Check]) l [] else none := rfl
def tk_simulatorref03_Mix : T (List Ex) :=
 (.leaf [(.o (.bxor .u64) (.o (.mul .u64) (.o (.bxor .u64) (.o (.mul .u64) (.o (.bxor .u64) (.v 0) (.o (.shr .u64) (.v 0) (.i 30))) (.i 13787848793156543929)) (.o (.shr .u64) (.o (.mul .u64) (.o (.bxor .u64) (.v 0) (.o (.shr .u64) (.v 0) (.i 30))) (.i 13787848793156543929)) (.i 27))) (.i 10723151780598845931)) (.o (.shr .u64) (.o (.mul .u64) (.o (.bxor .u64) (.o (.mul .u64) (.o (.bxor .u64) (.v 0) (.o (.shr .u64) (.v 0) (.i 30))) (.i 13787848793156543929)) (.o (.shr .u64) (.o (.mul .u64) (.o (.bxor .u64) (.v 0) (.o (.shr .u64) (.v 0) (.i 30))) (.i 13787848793156543929)) (.i 27))) (.i 10723151780598845931)) (.i 31)))])
noncomputable def k_simulatorref03_Mix : Known Tryd.prog := known mixedOk [] (by decide) [] plTypes plOk inFuncs insOk 6 ⟨73, [(.a (.ck (.int .u64)))], (.c (.a (.ck (.int .u64))))⟩ (fun args w => Tryd.call73 args w) tk_simulatorref03_Mix (by kernel_rfl)
theorem k_simulatorref03_Mix_f : k_simulatorref03_Mix.con.f = 73 := rfl
theorem k_simulatorref03_Mix_F (l : List Sc) : k_simulatorref03_Mix.F l = if l.length = 1 then tk_simulatorref03_Mix.den (gam (P := Tryd.prog) []) l [] else none := rfl
def tk_cmp_isNaN_int_ : T (List Ex) :=
 (.leaf [(.o .ne (.v 0) (.v 0))])
noncomputable def k_cmp_isNaN_int_ : Known Tryd.prog := known mixedOk [] (by decide) [] plTypes plOk inFuncs insOk 6 ⟨80, [(.a (.ck (.int .i64)))], (.c (.a (.ck .bool)))⟩ (fun args w => Tryd.call80 args w) tk_cmp_isNaN_int_ (by kernel_rfl)
theorem k_cmp_isNaN_int__f : k_cmp_isNaN_int_.con.f = 80 := rfl
theorem k_cmp_isNaN_int__F (l : List Sc) : k_cmp_isNaN_int_.F l = if l.length = 1 then tk_cmp_isNaN_int_.den (gam (P := Tryd.prog) []) l [] else none := rfl
def tk_stream_Mix : T (List Ex) :=
 (.leaf [(.o (.bxor .u64) (.o (.mul .u64) (.o (.bxor .u64) (.o (.mul .u64) (.o (.bxor .u64) (.v 0) (.o (.shr .u64) (.v 0) (.i 30))) (.i 13787848793156543929)) (.o (.shr .u64) (.o (.mul .u64) (.o (.bxor .u64) (.v 0) (.o (.shr .u64) (.v 0) (.i 30))) (.i 13787848793156543929)) (.i 27))) (.i 10723151780598845931)) (.o (.shr .u64) (.o (.mul .u64) (.o (.bxor .u64) (.o (.mul .u64) (.o (.bxor .u64) (.v 0) (.o (.shr .u64) (.v 0) (.i 30))) (.i 13787848793156543929)) (.o (.shr .u64) (.o (.mul .u64) (.o (.bxor .u64) (.v 0) (.o (.shr .u64) (.v 0) (.i 30))) (.i 13787848793156543929)) (.i 27))) (.i 10723151780598845931)) (.i 31)))])
noncomputable def k_stream_Mix : Known Tryd.prog := known mixedOk [] (by decide) [] plTypes plOk inFuncs insOk 6 ⟨82, [(.a (.ck (.int .u64)))], (.c (.a (.ck (.int .u64))))⟩ (fun args w => Tryd.call82 args w) tk_stream_Mix (by kernel_rfl)
theorem k_stream_Mix_f : k_stream_Mix.con.f = 82 := rfl
theorem k_stream_Mix_F (l : List Sc) : k_stream_Mix.F l = if l.length = 1 then tk_stream_Mix.den (gam (P := Tryd.prog) []) l [] else none := rfl
def tk_simulatorref02_Plus : T (List Ex) :=
 (.ite (.o .lt (.o (.add .u64) (.v 1) (.v 3)) (.v 1))
 (.leaf [(.o (.add .u64) (.o (.add .u64) (.v 0) (.v 2)) (.i 1)), (.o (.add .u64) (.v 1) (.v 3))])
 (.leaf [(.o (.add .u64) (.v 0) (.v 2)), (.o (.add .u64) (.v 1) (.v 3))]))
noncomputable def k_simulatorref02_Plus : Known Tryd.prog := known mixedOk [] (by decide) [] plTypes plOk inFuncs insOk 6 ⟨83, [(.g [(.ck (.int .u64)), (.ck (.int .u64))]), (.g [(.ck (.int .u64)), (.ck (.int .u64))])], (.c (.g [(.ck (.int .u64)), (.ck (.int .u64))]))⟩ (fun args w => Tryd.call83 args w) tk_simulatorref02_Plus (by kernel_rfl)
theorem k_simulatorref02_Plus_f : k_simulatorref02_Plus.con.f = 83 := rfl
theorem k_simulatorref02_Plus_F (l : List Sc) : k_simulatorref02_Plus.F l = if l.length = 4 then tk_simulatorref02_Plus.den (gam (P := Tryd.prog) []) l [] else none := rfl
def tk_simulatorref02_bit : T (List Ex) :=
 (.ite (.o .le (.i 64) (.v 2))
 (.need (.o .le (.i 0) (.u (.conv .u64) (.o (.sub .i64) (.v 2) (.i 64)))) (.leaf [(.o (.rem .u64) (.o (.shr .u64) (.v 0) (.u (.conv .u64) (.o (.sub .i64) (.v 2) (.i 64)))) (.i 2))]))
 (.need (.o .le (.i 0) (.u (.conv .u64) (.v 2))) (.leaf [(.o (.rem .u64) (.o (.shr .u64) (.v 1) (.u (.conv .u64) (.v 2))) (.i 2))])))
noncomputable def k_simulatorref02_bit : Known Tryd.prog := known mixedOk [] (by decide) [] plTypes plOk inFuncs insOk 6 ⟨84, [(.g [(.ck (.int .u64)), (.ck (.int .u64))]), (.a (.ck (.int .i64)))], (.c (.a (.ck (.int .u64))))⟩ (fun args w => Tryd.call84 args w) tk_simulatorref02_bit (by kernel_rfl)
theorem k_simulatorref02_bit_f : k_simulatorref02_bit.con.f = 84 := rfl
theorem k_simulatorref02_bit_F (l : List Sc) : k_simulatorref02_bit.F l = if l.length = 3 then tk_simulatorref02_bit.den (gam (P := Tryd.prog) []) l [] else none := rfl
def tk_simulatorref02_Less : T (List Ex) :=
 (.ite (.o .lt (.v 0) (.v 2))
 (.leaf [(.b true)])
 (.ite (.o .eq (.v 0) (.v 2))
 (.leaf [(.o .lt (.v 1) (.v 3))])
 (.leaf [(.b false)])))
noncomputable def k_simulatorref02_Less : Known Tryd.prog := known mixedOk [] (by decide) [] plTypes plOk inFuncs insOk 6 ⟨85, [(.g [(.ck (.int .u64)), (.ck (.int .u64))]), (.g [(.ck (.int .u64)), (.ck (.int .u64))])], (.c (.a (.ck .bool)))⟩ (fun args w => Tryd.call85 args w) tk_simulatorref02_Less (by kernel_rfl)
theorem k_simulatorref02_Less_f : k_simulatorref02_Less.con.f = 85 := rfl
theorem k_simulatorref02_Less_F (l : List Sc) : k_simulatorref02_Less.F l = if l.length = 4 then tk_simulatorref02_Less.den (gam (P := Tryd.prog) []) l [] else none := rfl
def tk_simulatorref02_Minus : T (List Ex) :=
 (.ite (.o .lt (.v 1) (.v 3))
 (.leaf [(.o (.sub .u64) (.o (.sub .u64) (.v 0) (.v 2)) (.i 1)), (.o (.sub .u64) (.v 1) (.v 3))])
 (.leaf [(.o (.sub .u64) (.v 0) (.v 2)), (.o (.sub .u64) (.v 1) (.v 3))]))
noncomputable def k_simulatorref02_Minus : Known Tryd.prog := known mixedOk [] (by decide) [] plTypes plOk inFuncs insOk 6 ⟨86, [(.g [(.ck (.int .u64)), (.ck (.int .u64))]), (.g [(.ck (.int .u64)), (.ck (.int .u64))])], (.c (.g [(.ck (.int .u64)), (.ck (.int .u64))]))⟩ (fun args w => Tryd.call86 args w) tk_simulatorref02_Minus (by kernel_rfl)
theorem k_simulatorref02_Minus_f : k_simulatorref02_Minus.con.f = 86 := rfl
theorem k_simulatorref02_Minus_F (l : List Sc) : k_simulatorref02_Minus.F l = if l.length = 4 then tk_simulatorref02_Minus.den (gam (P := Tryd.prog) []) l [] else none := rfl
def tk_bits_Len64 : T (List Ex) :=
 (.ite (.o .le (.i 4294967296) (.v 0))
 (.ite (.o .le (.i 65536) (.o (.shr .u64) (.v 0) (.i 32)))
 (.ite (.o .le (.i 256) (.o (.shr .u64) (.o (.shr .u64) (.v 0) (.i 32)) (.i 16)))
 (.need (.o .le (.i 0) (.u (.conv .u8) (.o (.shr .u64) (.o (.shr .u64) (.o (.shr .u64) (.v 0) (.i 32)) (.i 16)) (.i 8)))) (.need (.o .lt (.u (.conv .u8) (.o (.shr .u64) (.o (.shr .u64) (.o (.shr .u64) (.v 0) (.i 32)) (.i 16)) (.i 8))) (.u .slen (.s [0, 1, 2, 2, 3, 3, 3, 3, 4, 4, 4, 4, 4, 4, 4, 4, 5, 5, 5, 5, 5, 5, 5, 5, 5, 5, 5, 5, 5, 5, 5, 5, 6, 6, 6, 6, 6, 6, 6, 6, 6, 6, 6, 6, 6, 6, 6, 6, 6, 6, 6, 6, 6, 6, 6, 6, 6, 6, 6, 6, 6, 6, 6, 6, 7, 7, 7, 7, 7, 7, 7, 7, 7, 7, 7, 7, 7, 7, 7, 7, 7, 7, 7, 7, 7, 7, 7, 7, 7, 7, 7, 7, 7, 7, 7, 7, 7, 7, 7, 7, 7, 7, 7, 7, 7, 7, 7, 7, 7, 7, 7, 7, 7, 7, 7, 7, 7, 7, 7, 7, 7, 7, 7, 7, 7, 7, 7, 7, 8, 8, 8, 8, 8, 8, 8, 8, 8, 8, 8, 8, 8, 8, 8, 8, 8, 8, 8, 8, 8, 8, 8, 8, 8, 8, 8, 8, 8, 8, 8, 8, 8, 8, 8, 8, 8, 8, 8, 8, 8, 8, 8, 8, 8, 8, 8, 8, 8, 8, 8, 8, 8, 8, 8, 8, 8, 8, 8, 8, 8, 8, 8, 8, 8, 8, 8, 8, 8, 8, 8, 8, 8, 8, 8, 8, 8, 8, 8, 8, 8, 8, 8, 8, 8, 8, 8, 8, 8, 8, 8, 8, 8, 8, 8, 8, 8, 8, 8, 8, 8, 8, 8, 8, 8, 8, 8, 8, 8, 8, 8, 8, 8, 8, 8, 8, 8, 8, 8, 8, 8, 8, 8, 8, 8, 8, 8, 8]))) (.leaf [(.o (.add .i64) (.i 56) (.u (.conv .i64) (.o .sidx (.s [0, 1, 2, 2, 3, 3, 3, 3, 4, 4, 4, 4, 4, 4, 4, 4, 5, 5, 5, 5, 5, 5, 5, 5, 5, 5, 5, 5, 5, 5, 5, 5, 6, 6, 6, 6, 6, 6, 6, 6, 6, 6, 6, 6, 6, 6, 6, 6, 6, 6, 6, 6, 6, 6, 6, 6, 6, 6, 6, 6, 6, 6, 6, 6, 7, 7, 7, 7, 7, 7, 7, 7, 7, 7, 7, 7, 7, 7, 7, 7, 7, 7, 7, 7, 7, 7, 7, 7, 7, 7, 7, 7, 7, 7, 7, 7, 7, 7, 7, 7, 7, 7, 7, 7, 7, 7, 7, 7, 7, 7, 7, 7, 7, 7, 7, 7, 7, 7, 7, 7, 7, 7, 7, 7, 7, 7, 7, 7, 8, 8, 8, 8, 8, 8, 8, 8, 8, 8, 8, 8, 8, 8, 8, 8, 8, 8, 8, 8, 8, 8, 8, 8, 8, 8, 8, 8, 8, 8, 8, 8, 8, 8, 8, 8, 8, 8, 8, 8, 8, 8, 8, 8, 8, 8, 8, 8, 8, 8, 8, 8, 8, 8, 8, 8, 8, 8, 8, 8, 8, 8, 8, 8, 8, 8, 8, 8, 8, 8, 8, 8, 8, 8, 8, 8, 8, 8, 8, 8, 8, 8, 8, 8, 8, 8, 8, 8, 8, 8, 8, 8, 8, 8, 8, 8, 8, 8, 8, 8, 8, 8, 8, 8, 8, 8, 8, 8, 8, 8, 8, 8, 8, 8, 8, 8, 8, 8, 8, 8, 8, 8, 8, 8, 8, 8, 8, 8]) (.u (.conv .u8) (.o (.shr .u64) (.o (.shr .u64) (.o (.shr .u64) (.v 0) (.i 32)) (.i 16)) (.i 8))))))])))
 (.need (.o .le (.i 0) (.u (.conv .u8) (.o (.shr .u64) (.o (.shr .u64) (.v 0) (.i 32)) (.i 16)))) (.need (.o .lt (.u (.conv .u8) (.o (.shr .u64) (.o (.shr .u64) (.v 0) (.i 32)) (.i 16))) (.u .slen (.s [0, 1, 2, 2, 3, 3, 3, 3, 4, 4, 4, 4, 4, 4, 4, 4, 5, 5, 5, 5, 5, 5, 5, 5, 5, 5, 5, 5, 5, 5, 5, 5, 6, 6, 6, 6, 6, 6, 6, 6, 6, 6, 6, 6, 6, 6, 6, 6, 6, 6, 6, 6, 6, 6, 6, 6, 6, 6, 6, 6, 6, 6, 6, 6, 7, 7, 7, 7, 7, 7, 7, 7, 7, 7, 7, 7, 7, 7, 7, 7, 7, 7, 7, 7, 7, 7, 7, 7, 7, 7, 7, 7, 7, 7, 7, 7, 7, 7, 7, 7, 7, 7, 7, 7, 7, 7, 7, 7, 7, 7, 7, 7, 7, 7, 7, 7, 7, 7, 7, 7, 7, 7, 7, 7, 7, 7, 7, 7, 8, 8, 8, 8, 8, 8, 8, 8, 8, 8, 8, 8, 8, 8, 8, 8, 8, 8, 8, 8, 8, 8, 8, 8, 8, 8, 8, 8, 8, 8, 8, 8, 8, 8, 8, 8, 8, 8, 8, 8, 8, 8, 8, 8, 8, 8, 8, 8, 8, 8, 8, 8, 8, 8, 8, 8, 8, 8, 8, 8, 8, 8, 8, 8, 8, 8, 8, 8, 8, 8, 8, 8, 8, 8, 8, 8, 8, 8, 8, 8, 8, 8, 8, 8, 8, 8, 8, 8, 8, 8, 8, 8, 8, 8, 8, 8, 8, 8, 8, 8, 8, 8, 8, 8, 8, 8, 8, 8, 8, 8, 8, 8, 8, 8, 8, 8, 8, 8, 8, 8, 8, 8, 8, 8, 8, 8, 8, 8]))) (.leaf [(.o (.add .i64) (.i 48) (.u (.conv .i64) (.o .sidx (.s [0, 1, 2, 2, 3, 3, 3, 3, 4, 4, 4, 4, 4, 4, 4, 4, 5, 5, 5, 5, 5, 5, 5, 5, 5, 5, 5, 5, 5, 5, 5, 5, 6, 6, 6, 6, 6, 6, 6, 6, 6, 6, 6, 6, 6, 6, 6, 6, 6, 6, 6, 6, 6, 6, 6, 6, 6, 6, 6, 6, 6, 6, 6, 6, 7, 7, 7, 7, 7, 7, 7, 7, 7, 7, 7, 7, 7, 7, 7, 7, 7, 7, 7, 7, 7, 7, 7, 7, 7, 7, 7, 7, 7, 7, 7, 7, 7, 7, 7, 7, 7, 7, 7, 7, 7, 7, 7, 7, 7, 7, 7, 7, 7, 7, 7, 7, 7, 7, 7, 7, 7, 7, 7, 7, 7, 7, 7, 7, 8, 8, 8, 8, 8, 8, 8, 8, 8, 8, 8, 8, 8, 8, 8, 8, 8, 8, 8, 8, 8, 8, 8, 8, 8, 8, 8, 8, 8, 8, 8, 8, 8, 8, 8, 8, 8, 8, 8, 8, 8, 8, 8, 8, 8, 8, 8, 8, 8, 8, 8, 8, 8, 8, 8, 8, 8, 8, 8, 8, 8, 8, 8, 8, 8, 8, 8, 8, 8, 8, 8, 8, 8, 8, 8, 8, 8, 8, 8, 8, 8, 8, 8, 8, 8, 8, 8, 8, 8, 8, 8, 8, 8, 8, 8, 8, 8, 8, 8, 8, 8, 8, 8, 8, 8, 8, 8, 8, 8, 8, 8, 8, 8, 8, 8, 8, 8, 8, 8, 8, 8, 8, 8, 8, 8, 8, 8, 8]) (.u (.conv .u8) (.o (.shr .u64) (.o (.shr .u64) (.v 0) (.i 32)) (.i 16))))))]))))
 (.ite (.o .le (.i 256) (.o (.shr .u64) (.v 0) (.i 32)))
 (.need (.o .le (.i 0) (.u (.conv .u8) (.o (.shr .u64) (.o (.shr .u64) (.v 0) (.i 32)) (.i 8)))) (.need (.o .lt (.u (.conv .u8) (.o (.shr .u64) (.o (.shr .u64) (.v 0) (.i 32)) (.i 8))) (.u .slen (.s [0, 1, 2, 2, 3, 3, 3, 3, 4, 4, 4, 4, 4, 4, 4, 4, 5, 5, 5, 5, 5, 5, 5, 5, 5, 5, 5, 5, 5, 5, 5, 5, 6, 6, 6, 6, 6, 6, 6, 6, 6, 6, 6, 6, 6, 6, 6, 6, 6, 6, 6, 6, 6, 6, 6, 6, 6, 6, 6, 6, 6, 6, 6, 6, 7, 7, 7, 7, 7, 7, 7, 7, 7, 7, 7, 7, 7, 7, 7, 7, 7, 7, 7, 7, 7, 7, 7, 7, 7, 7, 7, 7, 7, 7, 7, 7, 7, 7, 7, 7, 7, 7, 7, 7, 7, 7, 7, 7, 7, 7, 7, 7, 7, 7, 7, 7, 7, 7, 7, 7, 7, 7, 7, 7, 7, 7, 7, 7, 8, 8, 8, 8, 8, 8, 8, 8, 8, 8, 8, 8, 8, 8, 8, 8, 8, 8, 8, 8, 8, 8, 8, 8, 8, 8, 8, 8, 8, 8, 8, 8, 8, 8, 8, 8, 8, 8, 8, 8, 8, 8, 8, 8, 8, 8, 8, 8, 8, 8, 8, 8, 8, 8, 8, 8, 8, 8, 8, 8, 8, 8, 8, 8, 8, 8, 8, 8, 8, 8, 8, 8, 8, 8, 8, 8, 8, 8, 8, 8, 8, 8, 8, 8, 8, 8, 8, 8, 8, 8, 8, 8, 8, 8, 8, 8, 8, 8, 8, 8, 8, 8, 8, 8, 8, 8, 8, 8, 8, 8, 8, 8, 8, 8, 8, 8, 8, 8, 8, 8, 8, 8, 8, 8, 8, 8, 8, 8]))) (.leaf [(.o (.add .i64) (.i 40) (.u (.conv .i64) (.o .sidx (.s [0, 1, 2, 2, 3, 3, 3, 3, 4, 4, 4, 4, 4, 4, 4, 4, 5, 5, 5, 5, 5, 5, 5, 5, 5, 5, 5, 5, 5, 5, 5, 5, 6, 6, 6, 6, 6, 6, 6, 6, 6, 6, 6, 6, 6, 6, 6, 6, 6, 6, 6, 6, 6, 6, 6, 6, 6, 6, 6, 6, 6, 6, 6, 6, 7, 7, 7, 7, 7, 7, 7, 7, 7, 7, 7, 7, 7, 7, 7, 7, 7, 7, 7, 7, 7, 7, 7, 7, 7, 7, 7, 7, 7, 7, 7, 7, 7, 7, 7, 7, 7, 7, 7, 7, 7, 7, 7, 7, 7, 7, 7, 7, 7, 7, 7, 7, 7, 7, 7, 7, 7, 7, 7, 7, 7, 7, 7, 7, 8, 8, 8, 8, 8, 8, 8, 8, 8, 8, 8, 8, 8, 8, 8, 8, 8, 8, 8, 8, 8, 8, 8, 8, 8, 8, 8, 8, 8, 8, 8, 8, 8, 8, 8, 8, 8, 8, 8, 8, 8, 8, 8, 8, 8, 8, 8, 8, 8, 8, 8, 8, 8, 8, 8, 8, 8, 8, 8, 8, 8, 8, 8, 8, 8, 8, 8, 8, 8, 8, 8, 8, 8, 8, 8, 8, 8, 8, 8, 8, 8, 8, 8, 8, 8, 8, 8, 8, 8, 8, 8, 8, 8, 8, 8, 8, 8, 8, 8, 8, 8, 8, 8, 8, 8, 8, 8, 8, 8, 8, 8, 8, 8, 8, 8, 8, 8, 8, 8, 8, 8, 8, 8, 8, 8, 8, 8, 8]) (.u (.conv .u8) (.o (.shr .u64) (.o (.shr .u64) (.v 0) (.i 32)) (.i 8))))))])))
 (.need (.o .le (.i 0) (.u (.conv .u8) (.o (.shr .u64) (.v 0) (.i 32)))) (.need (.o .lt (.u (.conv .u8) (.o (.shr .u64) (.v 0) (.i 32))) (.u .slen (.s [0, 1, 2, 2, 3, 3, 3, 3, 4, 4, 4, 4, 4, 4, 4, 4, 5, 5, 5, 5, 5, 5, 5, 5, 5, 5, 5, 5, 5, 5, 5, 5, 6, 6, 6, 6, 6, 6, 6, 6, 6, 6, 6, 6, 6, 6, 6, 6, 6, 6, 6, 6, 6, 6, 6, 6, 6, 6, 6, 6, 6, 6, 6, 6, 7, 7, 7, 7, 7, 7, 7, 7, 7, 7, 7, 7, 7, 7, 7, 7, 7, 7, 7, 7, 7, 7, 7, 7, 7, 7, 7, 7, 7, 7, 7, 7, 7, 7, 7, 7, 7, 7, 7, 7, 7, 7, 7, 7, 7, 7, 7, 7, 7, 7, 7, 7, 7, 7, 7, 7, 7, 7, 7, 7, 7, 7, 7, 7, 8, 8, 8, 8, 8, 8, 8, 8, 8, 8, 8, 8, 8, 8, 8, 8, 8, 8, 8, 8, 8, 8, 8, 8, 8, 8, 8, 8, 8, 8, 8, 8, 8, 8, 8, 8, 8, 8, 8, 8, 8, 8, 8, 8, 8, 8, 8, 8, 8, 8, 8, 8, 8, 8, 8, 8, 8, 8, 8, 8, 8, 8, 8, 8, 8, 8, 8, 8, 8, 8, 8, 8, 8, 8, 8, 8, 8, 8, 8, 8, 8, 8, 8, 8, 8, 8, 8, 8, 8, 8, 8, 8, 8, 8, 8, 8, 8, 8, 8, 8, 8, 8, 8, 8, 8, 8, 8, 8, 8, 8, 8, 8, 8, 8, 8, 8, 8, 8, 8, 8, 8, 8, 8, 8, 8, 8, 8, 8]))) (.leaf [(.o (.add .i64) (.i 32) (.u (.conv .i64) (.o .sidx (.s [0, 1, 2, 2, 3, 3, 3, 3, 4, 4, 4, 4, 4, 4, 4, 4, 5, 5, 5, 5, 5, 5, 5, 5, 5, 5, 5, 5, 5, 5, 5, 5, 6, 6, 6, 6, 6, 6, 6, 6, 6, 6, 6, 6, 6, 6, 6, 6, 6, 6, 6, 6, 6, 6, 6, 6, 6, 6, 6, 6, 6, 6, 6, 6, 7, 7, 7, 7, 7, 7, 7, 7, 7, 7, 7, 7, 7, 7, 7, 7, 7, 7, 7, 7, 7, 7, 7, 7, 7, 7, 7, 7, 7, 7, 7, 7, 7, 7, 7, 7, 7, 7, 7, 7, 7, 7, 7, 7, 7, 7, 7, 7, 7, 7, 7, 7, 7, 7, 7, 7, 7, 7, 7, 7, 7, 7, 7, 7, 8, 8, 8, 8, 8, 8, 8, 8, 8, 8, 8, 8, 8, 8, 8, 8, 8, 8, 8, 8, 8, 8, 8, 8, 8, 8, 8, 8, 8, 8, 8, 8, 8, 8, 8, 8, 8, 8, 8, 8, 8, 8, 8, 8, 8, 8, 8, 8, 8, 8, 8, 8, 8, 8, 8, 8, 8, 8, 8, 8, 8, 8, 8, 8, 8, 8, 8, 8, 8, 8, 8, 8, 8, 8, 8, 8, 8, 8, 8, 8, 8, 8, 8, 8, 8, 8, 8, 8, 8, 8, 8, 8, 8, 8, 8, 8, 8, 8, 8, 8, 8, 8, 8, 8, 8, 8, 8, 8, 8, 8, 8, 8, 8, 8, 8, 8, 8, 8, 8, 8, 8, 8, 8, 8, 8, 8, 8, 8]) (.u (.conv .u8) (.o (.shr .u64) (.v 0) (.i 32))))))])))))
 (.ite (.o .le (.i 65536) (.v 0))
 (.ite (.o .le (.i 256) (.o (.shr .u64) (.v 0) (.i 16)))
 (.need (.o .le (.i 0) (.u (.conv .u8) (.o (.shr .u64) (.o (.shr .u64) (.v 0) (.i 16)) (.i 8)))) (.need (.o .lt (.u (.conv .u8) (.o (.shr .u64) (.o (.shr .u64) (.v 0) (.i 16)) (.i 8))) (.u .slen (.s [0, 1, 2, 2, 3, 3, 3, 3, 4, 4, 4, 4, 4, 4, 4, 4, 5, 5, 5, 5, 5, 5, 5, 5, 5, 5, 5, 5, 5, 5, 5, 5, 6, 6, 6, 6, 6, 6, 6, 6, 6, 6, 6, 6, 6, 6, 6, 6, 6, 6, 6, 6, 6, 6, 6, 6, 6, 6, 6, 6, 6, 6, 6, 6, 7, 7, 7, 7, 7, 7, 7, 7, 7, 7, 7, 7, 7, 7, 7, 7, 7, 7, 7, 7, 7, 7, 7, 7, 7, 7, 7, 7, 7, 7, 7, 7, 7, 7, 7, 7, 7, 7, 7, 7, 7, 7, 7, 7, 7, 7, 7, 7, 7, 7, 7, 7, 7, 7, 7, 7, 7, 7, 7, 7, 7, 7, 7, 7, 8, 8, 8, 8, 8, 8, 8, 8, 8, 8, 8, 8, 8, 8, 8, 8, 8, 8, 8, 8, 8, 8, 8, 8, 8, 8, 8, 8, 8, 8, 8, 8, 8, 8, 8, 8, 8, 8, 8, 8, 8, 8, 8, 8, 8, 8, 8, 8, 8, 8, 8, 8, 8, 8, 8, 8, 8, 8, 8, 8, 8, 8, 8, 8, 8, 8, 8, 8, 8, 8, 8, 8, 8, 8, 8, 8, 8, 8, 8, 8, 8, 8, 8, 8, 8, 8, 8, 8, 8, 8, 8, 8, 8, 8, 8, 8, 8, 8, 8, 8, 8, 8, 8, 8, 8, 8, 8, 8, 8, 8, 8, 8, 8, 8, 8, 8, 8, 8, 8, 8, 8, 8, 8, 8, 8, 8, 8, 8]))) (.leaf [(.o (.add .i64) (.i 24) (.u (.conv .i64) (.o .sidx (.s [0, 1, 2, 2, 3, 3, 3, 3, 4, 4, 4, 4, 4, 4, 4, 4, 5, 5, 5, 5, 5, 5, 5, 5, 5, 5, 5, 5, 5, 5, 5, 5, 6, 6, 6, 6, 6, 6, 6, 6, 6, 6, 6, 6, 6, 6, 6, 6, 6, 6, 6, 6, 6, 6, 6, 6, 6, 6, 6, 6, 6, 6, 6, 6, 7, 7, 7, 7, 7, 7, 7, 7, 7, 7, 7, 7, 7, 7, 7, 7, 7, 7, 7, 7, 7, 7, 7, 7, 7, 7, 7, 7, 7, 7, 7, 7, 7, 7, 7, 7, 7, 7, 7, 7, 7, 7, 7, 7, 7, 7, 7, 7, 7, 7, 7, 7, 7, 7, 7, 7, 7, 7, 7, 7, 7, 7, 7, 7, 8, 8, 8, 8, 8, 8, 8, 8, 8, 8, 8, 8, 8, 8, 8, 8, 8, 8, 8, 8, 8, 8, 8, 8, 8, 8, 8, 8, 8, 8, 8, 8, 8, 8, 8, 8, 8, 8, 8, 8, 8, 8, 8, 8, 8, 8, 8, 8, 8, 8, 8, 8, 8, 8, 8, 8, 8, 8, 8, 8, 8, 8, 8, 8, 8, 8, 8, 8, 8, 8, 8, 8, 8, 8, 8, 8, 8, 8, 8, 8, 8, 8, 8, 8, 8, 8, 8, 8, 8, 8, 8, 8, 8, 8, 8, 8, 8, 8, 8, 8, 8, 8, 8, 8, 8, 8, 8, 8, 8, 8, 8, 8, 8, 8, 8, 8, 8, 8, 8, 8, 8, 8, 8, 8, 8, 8, 8, 8]) (.u (.conv .u8) (.o (.shr .u64) (.o (.shr .u64) (.v 0) (.i 16)) (.i 8))))))])))
 (.need (.o .le (.i 0) (.u (.conv .u8) (.o (.shr .u64) (.v 0) (.i 16)))) (.need (.o .lt (.u (.conv .u8) (.o (.shr .u64) (.v 0) (.i 16))) (.u .slen (.s [0, 1, 2, 2, 3, 3, 3, 3, 4, 4, 4, 4, 4, 4, 4, 4, 5, 5, 5, 5, 5, 5, 5, 5, 5, 5, 5, 5, 5, 5, 5, 5, 6, 6, 6, 6, 6, 6, 6, 6, 6, 6, 6, 6, 6, 6, 6, 6, 6, 6, 6, 6, 6, 6, 6, 6, 6, 6, 6, 6, 6, 6, 6, 6, 7, 7, 7, 7, 7, 7, 7, 7, 7, 7, 7, 7, 7, 7, 7, 7, 7, 7, 7, 7, 7, 7, 7, 7, 7, 7, 7, 7, 7, 7, 7, 7, 7, 7, 7, 7, 7, 7, 7, 7, 7, 7, 7, 7, 7, 7, 7, 7, 7, 7, 7, 7, 7, 7, 7, 7, 7, 7, 7, 7, 7, 7, 7, 7, 8, 8, 8, 8, 8, 8, 8, 8, 8, 8, 8, 8, 8, 8, 8, 8, 8, 8, 8, 8, 8, 8, 8, 8, 8, 8, 8, 8, 8, 8, 8, 8, 8, 8, 8, 8, 8, 8, 8, 8, 8, 8, 8, 8, 8, 8, 8, 8, 8, 8, 8, 8, 8, 8, 8, 8, 8, 8, 8, 8, 8, 8, 8, 8, 8, 8, 8, 8, 8, 8, 8, 8, 8, 8, 8, 8, 8, 8, 8, 8, 8, 8, 8, 8, 8, 8, 8, 8, 8, 8, 8, 8, 8, 8, 8, 8, 8, 8, 8, 8, 8, 8, 8, 8, 8, 8, 8, 8, 8, 8, 8, 8, 8, 8, 8, 8, 8, 8, 8, 8, 8, 8, 8, 8, 8, 8, 8, 8]))) (.leaf [(.o (.add .i64) (.i 16) (.u (.conv .i64) (.o .sidx (.s [0, 1, 2, 2, 3, 3, 3, 3, 4, 4, 4, 4, 4, 4, 4, 4, 5, 5, 5, 5, 5, 5, 5, 5, 5, 5, 5, 5, 5, 5, 5, 5, 6, 6, 6, 6, 6, 6, 6, 6, 6, 6, 6, 6, 6, 6, 6, 6, 6, 6, 6, 6, 6, 6, 6, 6, 6, 6, 6, 6, 6, 6, 6, 6, 7, 7, 7, 7, 7, 7, 7, 7, 7, 7, 7, 7, 7, 7, 7, 7, 7, 7, 7, 7, 7, 7, 7, 7, 7, 7, 7, 7, 7, 7, 7, 7, 7, 7, 7, 7, 7, 7, 7, 7, 7, 7, 7, 7, 7, 7, 7, 7, 7, 7, 7, 7, 7, 7, 7, 7, 7, 7, 7, 7, 7, 7, 7, 7, 8, 8, 8, 8, 8, 8, 8, 8, 8, 8, 8, 8, 8, 8, 8, 8, 8, 8, 8, 8, 8, 8, 8, 8, 8, 8, 8, 8, 8, 8, 8, 8, 8, 8, 8, 8, 8, 8, 8, 8, 8, 8, 8, 8, 8, 8, 8, 8, 8, 8, 8, 8, 8, 8, 8, 8, 8, 8, 8, 8, 8, 8, 8, 8, 8, 8, 8, 8, 8, 8, 8, 8, 8, 8, 8, 8, 8, 8, 8, 8, 8, 8, 8, 8, 8, 8, 8, 8, 8, 8, 8, 8, 8, 8, 8, 8, 8, 8, 8, 8, 8, 8, 8, 8, 8, 8, 8, 8, 8, 8, 8, 8, 8, 8, 8, 8, 8, 8, 8, 8, 8, 8, 8, 8, 8, 8, 8, 8]) (.u (.conv .u8) (.o (.shr .u64) (.v 0) (.i 16))))))]))))
 (.ite (.o .le (.i 256) (.v 0))
 (.need (.o .le (.i 0) (.u (.conv .u8) (.o (.shr .u64) (.v 0) (.i 8)))) (.need (.o .lt (.u (.conv .u8) (.o (.shr .u64) (.v 0) (.i 8))) (.u .slen (.s [0, 1, 2, 2, 3, 3, 3, 3, 4, 4, 4, 4, 4, 4, 4, 4, 5, 5, 5, 5, 5, 5, 5, 5, 5, 5, 5, 5, 5, 5, 5, 5, 6, 6, 6, 6, 6, 6, 6, 6, 6, 6, 6, 6, 6, 6, 6, 6, 6, 6, 6, 6, 6, 6, 6, 6, 6, 6, 6, 6, 6, 6, 6, 6, 7, 7, 7, 7, 7, 7, 7, 7, 7, 7, 7, 7, 7, 7, 7, 7, 7, 7, 7, 7, 7, 7, 7, 7, 7, 7, 7, 7, 7, 7, 7, 7, 7, 7, 7, 7, 7, 7, 7, 7, 7, 7, 7, 7, 7, 7, 7, 7, 7, 7, 7, 7, 7, 7, 7, 7, 7, 7, 7, 7, 7, 7, 7, 7, 8, 8, 8, 8, 8, 8, 8, 8, 8, 8, 8, 8, 8, 8, 8, 8, 8, 8, 8, 8, 8, 8, 8, 8, 8, 8, 8, 8, 8, 8, 8, 8, 8, 8, 8, 8, 8, 8, 8, 8, 8, 8, 8, 8, 8, 8, 8, 8, 8, 8, 8, 8, 8, 8, 8, 8, 8, 8, 8, 8, 8, 8, 8, 8, 8, 8, 8, 8, 8, 8, 8, 8, 8, 8, 8, 8, 8, 8, 8, 8, 8, 8, 8, 8, 8, 8, 8, 8, 8, 8, 8, 8, 8, 8, 8, 8, 8, 8, 8, 8, 8, 8, 8, 8, 8, 8, 8, 8, 8, 8, 8, 8, 8, 8, 8, 8, 8, 8, 8, 8, 8, 8, 8, 8, 8, 8, 8, 8]))) (.leaf [(.o (.add .i64) (.i 8) (.u (.conv .i64) (.o .sidx (.s [0, 1, 2, 2, 3, 3, 3, 3, 4, 4, 4, 4, 4, 4, 4, 4, 5, 5, 5, 5, 5, 5, 5, 5, 5, 5, 5, 5, 5, 5, 5, 5, 6, 6, 6, 6, 6, 6, 6, 6, 6, 6, 6, 6, 6, 6, 6, 6, 6, 6, 6, 6, 6, 6, 6, 6, 6, 6, 6, 6, 6, 6, 6, 6, 7, 7, 7, 7, 7, 7, 7, 7, 7, 7, 7, 7, 7, 7, 7, 7, 7, 7, 7, 7, 7, 7, 7, 7, 7, 7, 7, 7, 7, 7, 7, 7, 7, 7, 7, 7, 7, 7, 7, 7, 7, 7, 7, 7, 7, 7, 7, 7, 7, 7, 7, 7, 7, 7, 7, 7, 7, 7, 7, 7, 7, 7, 7, 7, 8, 8, 8, 8, 8, 8, 8, 8, 8, 8, 8, 8, 8, 8, 8, 8, 8, 8, 8, 8, 8, 8, 8, 8, 8, 8, 8, 8, 8, 8, 8, 8, 8, 8, 8, 8, 8, 8, 8, 8, 8, 8, 8, 8, 8, 8, 8, 8, 8, 8, 8, 8, 8, 8, 8, 8, 8, 8, 8, 8, 8, 8, 8, 8, 8, 8, 8, 8, 8, 8, 8, 8, 8, 8, 8, 8, 8, 8, 8, 8, 8, 8, 8, 8, 8, 8, 8, 8, 8, 8, 8, 8, 8, 8, 8, 8, 8, 8, 8, 8, 8, 8, 8, 8, 8, 8, 8, 8, 8, 8, 8, 8, 8, 8, 8, 8, 8, 8, 8, 8, 8, 8, 8, 8, 8, 8, 8, 8]) (.u (.conv .u8) (.o (.shr .u64) (.v 0) (.i 8))))))])))
 (.need (.o .le (.i 0) (.u (.conv .u8) (.v 0))) (.need (.o .lt (.u (.conv .u8) (.v 0)) (.u .slen (.s [0, 1, 2, 2, 3, 3, 3, 3, 4, 4, 4, 4, 4, 4, 4, 4, 5, 5, 5, 5, 5, 5, 5, 5, 5, 5, 5, 5, 5, 5, 5, 5, 6, 6, 6, 6, 6, 6, 6, 6, 6, 6, 6, 6, 6, 6, 6, 6, 6, 6, 6, 6, 6, 6, 6, 6, 6, 6, 6, 6, 6, 6, 6, 6, 7, 7, 7, 7, 7, 7, 7, 7, 7, 7, 7, 7, 7, 7, 7, 7, 7, 7, 7, 7, 7, 7, 7, 7, 7, 7, 7, 7, 7, 7, 7, 7, 7, 7, 7, 7, 7, 7, 7, 7, 7, 7, 7, 7, 7, 7, 7, 7, 7, 7, 7, 7, 7, 7, 7, 7, 7, 7, 7, 7, 7, 7, 7, 7, 8, 8, 8, 8, 8, 8, 8, 8, 8, 8, 8, 8, 8, 8, 8, 8, 8, 8, 8, 8, 8, 8, 8, 8, 8, 8, 8, 8, 8, 8, 8, 8, 8, 8, 8, 8, 8, 8, 8, 8, 8, 8, 8, 8, 8, 8, 8, 8, 8, 8, 8, 8, 8, 8, 8, 8, 8, 8, 8, 8, 8, 8, 8, 8, 8, 8, 8, 8, 8, 8, 8, 8, 8, 8, 8, 8, 8, 8, 8, 8, 8, 8, 8, 8, 8, 8, 8, 8, 8, 8, 8, 8, 8, 8, 8, 8, 8, 8, 8, 8, 8, 8, 8, 8, 8, 8, 8, 8, 8, 8, 8, 8, 8, 8, 8, 8, 8, 8, 8, 8, 8, 8, 8, 8, 8, 8, 8, 8]))) (.leaf [(.o (.add .i64) (.i 0) (.u (.conv .i64) (.o .sidx (.s [0, 1, 2, 2, 3, 3, 3, 3, 4, 4, 4, 4, 4, 4, 4, 4, 5, 5, 5, 5, 5, 5, 5, 5, 5, 5, 5, 5, 5, 5, 5, 5, 6, 6, 6, 6, 6, 6, 6, 6, 6, 6, 6, 6, 6, 6, 6, 6, 6, 6, 6, 6, 6, 6, 6, 6, 6, 6, 6, 6, 6, 6, 6, 6, 7, 7, 7, 7, 7, 7, 7, 7, 7, 7, 7, 7, 7, 7, 7, 7, 7, 7, 7, 7, 7, 7, 7, 7, 7, 7, 7, 7, 7, 7, 7, 7, 7, 7, 7, 7, 7, 7, 7, 7, 7, 7, 7, 7, 7, 7, 7, 7, 7, 7, 7, 7, 7, 7, 7, 7, 7, 7, 7, 7, 7, 7, 7, 7, 8, 8, 8, 8, 8, 8, 8, 8, 8, 8, 8, 8, 8, 8, 8, 8, 8, 8, 8, 8, 8, 8, 8, 8, 8, 8, 8, 8, 8, 8, 8, 8, 8, 8, 8, 8, 8, 8, 8, 8, 8, 8, 8, 8, 8, 8, 8, 8, 8, 8, 8, 8, 8, 8, 8, 8, 8, 8, 8, 8, 8, 8, 8, 8, 8, 8, 8, 8, 8, 8, 8, 8, 8, 8, 8, 8, 8, 8, 8, 8, 8, 8, 8, 8, 8, 8, 8, 8, 8, 8, 8, 8, 8, 8, 8, 8, 8, 8, 8, 8, 8, 8, 8, 8, 8, 8, 8, 8, 8, 8, 8, 8, 8, 8, 8, 8, 8, 8, 8, 8, 8, 8, 8, 8, 8, 8, 8, 8]) (.u (.conv .u8) (.v 0)))))]))))))
noncomputable def k_bits_Len64 : Known Tryd.prog := known mixedOk [] (by decide) [] plTypes plOk inFuncs insOk 6 ⟨90, [(.a (.ck (.int .u64)))], (.c (.a (.ck (.int .i64))))⟩ (fun args w => Tryd.call90 args w) tk_bits_Len64 (by kernel_rfl)
theorem k_bits_Len64_f : k_bits_Len64.con.f = 90 := rfl
theorem k_bits_Len64_F (l : List Sc) : k_bits_Len64.F l = if l.length = 1 then tk_bits_Len64.den (gam (P := Tryd.prog) []) l [] else none := rfl
def tk_strconv_small : T (List Ex) :=
 (.ite (.o .lt (.v 0) (.i 10))
 (.need (.o .le (.i 0) (.v 0)) (.need (.o .le (.v 0) (.o (.add .i64) (.v 0) (.i 1))) (.need (.o .le (.o (.add .i64) (.v 0) (.i 1)) (.u .slen (.s [48, 49, 50, 51, 52, 53, 54, 55, 56, 57, 97, 98, 99, 100, 101, 102, 103, 104, 105, 106, 107, 108, 109, 110, 111, 112, 113, 114, 115, 116, 117, 118, 119, 120, 121, 122]))) (.leaf [(.t .ssub (.s [48, 49, 50, 51, 52, 53, 54, 55, 56, 57, 97, 98, 99, 100, 101, 102, 103, 104, 105, 106, 107, 108, 109, 110, 111, 112, 113, 114, 115, 116, 117, 118, 119, 120, 121, 122]) (.v 0) (.o (.add .i64) (.v 0) (.i 1)))]))))
 (.need (.o .le (.i 0) (.o (.mul .i64) (.v 0) (.i 2))) (.need (.o .le (.o (.mul .i64) (.v 0) (.i 2)) (.o (.add .i64) (.o (.mul .i64) (.v 0) (.i 2)) (.i 2))) (.need (.o .le (.o (.add .i64) (.o (.mul .i64) (.v 0) (.i 2)) (.i 2)) (.u .slen (.s [48, 48, 48, 49, 48, 50, 48, 51, 48, 52, 48, 53, 48, 54, 48, 55, 48, 56, 48, 57, 49, 48, 49, 49, 49, 50, 49, 51, 49, 52, 49, 53, 49, 54, 49, 55, 49, 56, 49, 57, 50, 48, 50, 49, 50, 50, 50, 51, 50, 52, 50, 53, 50, 54, 50, 55, 50, 56, 50, 57, 51, 48, 51, 49, 51, 50, 51, 51, 51, 52, 51, 53, 51, 54, 51, 55, 51, 56, 51, 57, 52, 48, 52, 49, 52, 50, 52, 51, 52, 52, 52, 53, 52, 54, 52, 55, 52, 56, 52, 57, 53, 48, 53, 49, 53, 50, 53, 51, 53, 52, 53, 53, 53, 54, 53, 55, 53, 56, 53, 57, 54, 48, 54, 49, 54, 50, 54, 51, 54, 52, 54, 53, 54, 54, 54, 55, 54, 56, 54, 57, 55, 48, 55, 49, 55, 50, 55, 51, 55, 52, 55, 53, 55, 54, 55, 55, 55, 56, 55, 57, 56, 48, 56, 49, 56, 50, 56, 51, 56, 52, 56, 53, 56, 54, 56, 55, 56, 56, 56, 57, 57, 48, 57, 49, 57, 50, 57, 51, 57, 52, 57, 53, 57, 54, 57, 55, 57, 56, 57, 57]))) (.leaf [(.t .ssub (.s [48, 48, 48, 49, 48, 50, 48, 51, 48, 52, 48, 53, 48, 54, 48, 55, 48, 56, 48, 57, 49, 48, 49, 49, 49, 50, 49, 51, 49, 52, 49, 53, 49, 54, 49, 55, 49, 56, 49, 57, 50, 48, 50, 49, 50, 50, 50, 51, 50, 52, 50, 53, 50, 54, 50, 55, 50, 56, 50, 57, 51, 48, 51, 49, 51, 50, 51, 51, 51, 52, 51, 53, 51, 54, 51, 55, 51, 56, 51, 57, 52, 48, 52, 49, 52, 50, 52, 51, 52, 52, 52, 53, 52, 54, 52, 55, 52, 56, 52, 57, 53, 48, 53, 49, 53, 50, 53, 51, 53, 52, 53, 53, 53, 54, 53, 55, 53, 56, 53, 57, 54, 48, 54, 49, 54, 50, 54, 51, 54, 52, 54, 53, 54, 54, 54, 55, 54, 56, 54, 57, 55, 48, 55, 49, 55, 50, 55, 51, 55, 52, 55, 53, 55, 54, 55, 55, 55, 56, 55, 57, 56, 48, 56, 49, 56, 50, 56, 51, 56, 52, 56, 53, 56, 54, 56, 55, 56, 56, 56, 57, 57, 48, 57, 49, 57, 50, 57, 51, 57, 52, 57, 53, 57, 54, 57, 55, 57, 56, 57, 57]) (.o (.mul .i64) (.v 0) (.i 2)) (.o (.add .i64) (.o (.mul .i64) (.v 0) (.i 2)) (.i 2)))])))))
noncomputable def k_strconv_small : Known Tryd.prog := known mixedOk [] (by decide) [] plTypes plOk inFuncs insOk 6 ⟨91, [(.a (.ck (.int .i64)))], (.c (.a (.ck .str)))⟩ (fun args w => Tryd.call91 args w) tk_strconv_small (by kernel_rfl)
theorem k_strconv_small_f : k_strconv_small.con.f = 91 := rfl
theorem k_strconv_small_F (l : List Sc) : k_strconv_small.F l = if l.length = 1 then tk_strconv_small.den (gam (P := Tryd.prog) []) l [] else none := rfl
def tk_strconv_log10Pow2 : T (List Ex) :=
 (.leaf [(.o (.shr .i64) (.o (.mul .i64) (.v 0) (.i 78913)) (.i 18))])
noncomputable def k_strconv_log10Pow2 : Known Tryd.prog := known mixedOk [] (by decide) [] plTypes plOk inFuncs insOk 6 ⟨96, [(.a (.ck (.int .i64)))], (.c (.a (.ck (.int .i64))))⟩ (fun args w => Tryd.call96 args w) tk_strconv_log10Pow2 (by kernel_rfl)
theorem k_strconv_log10Pow2_f : k_strconv_log10Pow2.con.f = 96 := rfl
theorem k_strconv_log10Pow2_F (l : List Sc) : k_strconv_log10Pow2.F l = if l.length = 1 then tk_strconv_log10Pow2.den (gam (P := Tryd.prog) []) l [] else none := rfl
def tk_strconv_bool2_int_ : T (List Ex) :=
 (.ite (.v 0)
 (.leaf [(.i 1)])
 (.leaf [(.i 0)]))
noncomputable def k_strconv_bool2_int_ : Known Tryd.prog := known mixedOk [] (by decide) [] plTypes plOk inFuncs insOk 6 ⟨97, [(.a (.ck .bool))], (.c (.a (.ck (.int .i64))))⟩ (fun args w => Tryd.call97 args w) tk_strconv_bool2_int_ (by kernel_rfl)
theorem k_strconv_bool2_int__f : k_strconv_bool2_int_.con.f = 97 := rfl
theorem k_strconv_bool2_int__F (l : List Sc) : k_strconv_bool2_int_.F l = if l.length = 1 then tk_strconv_bool2_int_.den (gam (P := Tryd.prog) []) l [] else none := rfl
def tk_strconv_isPowerOfTwo : T (List Ex) :=
 (.leaf [(.o .eq (.o (.band .i64) (.v 0) (.o (.sub .i64) (.v 0) (.i 1))) (.i 0))])
noncomputable def k_strconv_isPowerOfTwo : Known Tryd.prog := known mixedOk [] (by decide) [] plTypes plOk inFuncs insOk 6 ⟨98, [(.a (.ck (.int .i64)))], (.c (.a (.ck .bool)))⟩ (fun args w => Tryd.call98 args w) tk_strconv_isPowerOfTwo (by kernel_rfl)
theorem k_strconv_isPowerOfTwo_f : k_strconv_isPowerOfTwo.con.f = 98 := rfl
theorem k_strconv_isPowerOfTwo_F (l : List Sc) : k_strconv_isPowerOfTwo.F l = if l.length = 1 then tk_strconv_isPowerOfTwo.den (gam (P := Tryd.prog) []) l [] else none := rfl
def tk_dist_Check : T (List Ex) :=
 (.call 32 [(.v 0), (.v 1), (.v 2), (.v 3), (.v 4), (.v 5)] 1
 (.ite (.u .not (.v 6))
 (.leaf [(.i 1)])
 (.ite (.o .eq (.v 0) (.i 1))
 (.call 33 [(.i 0), (.i 1000000000), (.o .cons (.v 1) .nil)] 1
 (.ite (.u .not (.v 7))
 (.leaf [(.i 2)])
 (.leaf [(.i 0)])))
 (.ite (.o .eq (.v 0) (.i 2))
 (.call 33 [(.i 0), (.i 1000000000), (.o .cons (.v 1) (.o .cons (.v 2) .nil))] 1
 (.ite (.v 7)
 (.ite (.u .not (.o .le (.v 1) (.v 2)))
 (.leaf [(.i 2)])
 (.leaf [(.i 0)]))
 (.leaf [(.i 2)])))
 (.ite (.o .eq (.v 0) (.i 4))
 (.call 33 [(.i 1), (.i 20), (.o .cons (.v 3) .nil)] 1
 (.ite (.v 7)
 (.call 33 [(.i 0), (.i 1000000), (.o .cons (.v 1) (.o .cons (.v 2) .nil))] 1
 (.ite (.v 8)
 (.ite (.u .not (.o .le (.v 1) (.v 2)))
 (.leaf [(.i 2)])
 (.leaf [(.i 0)]))
 (.leaf [(.i 2)])))
 (.leaf [(.i 2)])))
 (.ite (.o .eq (.v 0) (.i 5))
 (.call 33 [(.i 1), (.i 1000), (.o .cons (.v 1) (.o .cons (.v 2) .nil))] 1
 (.ite (.u .not (.v 7))
 (.leaf [(.i 2)])
 (.leaf [(.i 0)])))
 (.ite (.o .eq (.v 0) (.i 3))
 (.ite (.o .ne (.u .len (.v 4)) (.u .len (.v 5)))
 (.leaf [(.i 8)])
 (.ite (.o .eq (.u .len (.v 4)) (.i 0))
 (.leaf [(.i 7)])
 (.ite (.o .lt (.i 20) (.u .len (.v 4)))
 (.leaf [(.i 6)])
 (.call 33 [(.i 0), (.i 1000000000), (.v 4)] 1
 (.ite (.v 7)
 (.call 33 [(.i 1), (.i 1000), (.v 5)] 1
 (.ite (.u .not (.v 8))
 (.leaf [(.i 2)])
 (.leaf [(.i 0)])))
 (.leaf [(.i 2)]))))))
 (.leaf [(.i 2)]))))))))
noncomputable def k_dist_Check : Known Tryd.prog := known mixedOk [k_dist_unused, k_dist_within] (by decide) [] plTypes plOk inFuncs insOk 6 ⟨14, [(.g [(.ck (.int .i64)), (.ck (.int .i64)), (.ck (.int .i64)), (.ck (.int .i64)), (.row 3 [(.int .i64)] false), (.row 3 [(.int .i64)] false)])], (.c (.a (.ck (.int .i64))))⟩ (fun args w => Tryd.call14 args w) tk_dist_Check (by kernel_rfl)
theorem k_dist_Check_f : k_dist_Check.con.f = 14 := rfl
theorem k_dist_Check_F (l : List Sc) : k_dist_Check.F l = if l.length = 6 then tk_dist_Check.den (gam (P := Tryd.prog) [k_dist_unused, k_dist_within]) l [] else none := rfl
def tk_simulatorref04_Check : T (List Ex) :=
 (.call 34 [(.v 0), (.v 1), (.v 2), (.v 3), (.v 4), (.v 5)] 1
 (.ite (.u .not (.v 6))
 (.leaf [(.i 1)])
 (.ite (.o .eq (.v 0) (.i 1))
 (.call 35 [(.v 1), (.i 0), (.i 1000000000)] 1
 (.ite (.u .not (.v 7))
 (.leaf [(.i 2)])
 (.leaf [(.i 0)])))
 (.ite (.o .eq (.v 0) (.i 2))
 (.call 35 [(.v 1), (.i 0), (.v 2)] 1
 (.ite (.v 7)
 (.ite (.u .not (.o .le (.v 2) (.i 1000000000)))
 (.leaf [(.i 2)])
 (.leaf [(.i 0)]))
 (.leaf [(.i 2)])))
 (.ite (.o .eq (.v 0) (.i 3))
 (.call 36 [(.v 0), (.v 1), (.v 2), (.v 3), (.v 4), (.v 5)] 1
 (.leaf [(.v 7)]))
 (.ite (.o .eq (.v 0) (.i 4))
 (.call 35 [(.v 3), (.i 1), (.i 20)] 1
 (.ite (.v 7)
 (.call 35 [(.v 1), (.i 0), (.v 2)] 1
 (.ite (.v 8)
 (.ite (.u .not (.o .le (.v 2) (.i 1000000)))
 (.leaf [(.i 2)])
 (.leaf [(.i 0)]))
 (.leaf [(.i 2)])))
 (.leaf [(.i 2)])))
 (.ite (.o .eq (.v 0) (.i 5))
 (.call 35 [(.v 1), (.i 1), (.i 1000)] 1
 (.ite (.v 7)
 (.call 35 [(.v 2), (.i 1), (.i 1000)] 1
 (.ite (.u .not (.v 8))
 (.leaf [(.i 2)])
 (.leaf [(.i 0)])))
 (.leaf [(.i 2)])))
 (.leaf [(.i 0)]))))))))
noncomputable def k_simulatorref04_Check : Known Tryd.prog := known mixedOk [k_simulatorref04_unused, k_simulatorref04_between, k_simulatorref04_table] (by decide) [] plTypes plOk inFuncs insOk 6 ⟨15, [(.g [(.ck (.int .i64)), (.ck (.int .i64)), (.ck (.int .i64)), (.ck (.int .i64)), (.row 3 [(.int .i64)] false), (.row 3 [(.int .i64)] false)])], (.c (.a (.ck (.int .i64))))⟩ (fun args w => Tryd.call15 args w) tk_simulatorref04_Check (by kernel_rfl)
theorem k_simulatorref04_Check_f : k_simulatorref04_Check.con.f = 15 := rfl
theorem k_simulatorref04_Check_F (l : List Sc) : k_simulatorref04_Check.F l = if l.length = 6 then tk_simulatorref04_Check.den (gam (P := Tryd.prog) [k_simulatorref04_unused, k_simulatorref04_between, k_simulatorref04_table]) l [] else none := rfl
def tk_dist_Same : T (List Ex) :=
 (.ite (.o .eq (.v 0) (.v 6))
 (.ite (.o .eq (.v 1) (.v 7))
 (.ite (.o .eq (.v 2) (.v 8))
 (.ite (.o .eq (.v 3) (.v 9))
 (.call 37 [(.v 4), (.v 10)] 1
 (.ite (.v 12)
 (.call 37 [(.v 5), (.v 11)] 1
 (.leaf [(.v 13)]))
 (.leaf [(.b false)])))
 (.leaf [(.b false)]))
 (.leaf [(.b false)]))
 (.leaf [(.b false)]))
 (.leaf [(.b false)]))
noncomputable def k_dist_Same : Known Tryd.prog := known mixedOk [k_slices_Equal___int_int_] (by decide) [] plTypes plOk inFuncs insOk 6 ⟨16, [(.g [(.ck (.int .i64)), (.ck (.int .i64)), (.ck (.int .i64)), (.ck (.int .i64)), (.row 3 [(.int .i64)] false), (.row 3 [(.int .i64)] false)]), (.g [(.ck (.int .i64)), (.ck (.int .i64)), (.ck (.int .i64)), (.ck (.int .i64)), (.row 3 [(.int .i64)] false), (.row 3 [(.int .i64)] false)])], (.c (.a (.ck .bool)))⟩ (fun args w => Tryd.call16 args w) tk_dist_Same (by kernel_rfl)
theorem k_dist_Same_f : k_dist_Same.con.f = 16 := rfl
theorem k_dist_Same_F (l : List Sc) : k_dist_Same.F l = if l.length = 12 then tk_dist_Same.den (gam (P := Tryd.prog) [k_slices_Equal___int_int_]) l [] else none := rfl
def tk_simulatorref04_Same : T (List Ex) :=
 (.ite (.o .eq (.v 0) (.v 6))
 (.ite (.o .eq (.v 1) (.v 7))
 (.ite (.o .eq (.v 2) (.v 8))
 (.ite (.o .eq (.v 3) (.v 9))
 (.call 38 [(.v 4), (.v 10)] 1
 (.ite (.v 12)
 (.call 38 [(.v 5), (.v 11)] 1
 (.leaf [(.v 13)]))
 (.leaf [(.b false)])))
 (.leaf [(.b false)]))
 (.leaf [(.b false)]))
 (.leaf [(.b false)]))
 (.leaf [(.b false)]))
noncomputable def k_simulatorref04_Same : Known Tryd.prog := known mixedOk [k_simulatorref04_sameInts] (by decide) [] plTypes plOk inFuncs insOk 6 ⟨17, [(.g [(.ck (.int .i64)), (.ck (.int .i64)), (.ck (.int .i64)), (.ck (.int .i64)), (.row 3 [(.int .i64)] false), (.row 3 [(.int .i64)] false)]), (.g [(.ck (.int .i64)), (.ck (.int .i64)), (.ck (.int .i64)), (.ck (.int .i64)), (.row 3 [(.int .i64)] false), (.row 3 [(.int .i64)] false)])], (.c (.a (.ck .bool)))⟩ (fun args w => Tryd.call17 args w) tk_simulatorref04_Same (by kernel_rfl)
theorem k_simulatorref04_Same_f : k_simulatorref04_Same.con.f = 17 := rfl
theorem k_simulatorref04_Same_F (l : List Sc) : k_simulatorref04_Same.F l = if l.length = 12 then tk_simulatorref04_Same.den (gam (P := Tryd.prog) [k_simulatorref04_sameInts]) l [] else none := rfl
def tk_dist_Text : T (List Ex) :=
 (.call 14 [(.v 0), (.v 1), (.v 2), (.v 3), (.v 4), (.v 5)] 1
 (.ite (.o .ne (.v 6) (.i 0))
 (.leaf [(.s [])])
 (.ite (.o .eq (.v 0) (.i 1))
 (.loop [(.s [99, 111, 110, 115, 116]), (.i 0)]
 (.ite (.o .lt (.v 8) (.u .len (.o .cons (.v 1) .nil)))
 (.need (.o .le (.i 0) (.v 8)) (.need (.o .lt (.v 8) (.u .len (.o .cons (.v 1) .nil))) (.call 40 [(.o .idx (.o .cons (.v 1) .nil) (.v 8))] 1
 (.need (.o .le (.u .slen (.o .cat (.s [32]) (.v 9))) (.i 9223372036854775807)) (.need (.o .le (.u .slen (.o .cat (.v 7) (.o .cat (.s [32]) (.v 9)))) (.i 9223372036854775807)) (.next 0 [(.o .cat (.v 7) (.o .cat (.s [32]) (.v 9))), (.o (.add .i64) (.v 8) (.i 1))]))))))
 (.leaf [(.v 7)])))
 (.ite (.o .eq (.v 0) (.i 2))
 (.loop [(.s [117, 110, 105, 102, 111, 114, 109]), (.i 0)]
 (.ite (.o .lt (.v 8) (.u .len (.o .cons (.v 1) (.o .cons (.v 2) .nil))))
 (.need (.o .le (.i 0) (.v 8)) (.need (.o .lt (.v 8) (.u .len (.o .cons (.v 1) (.o .cons (.v 2) .nil)))) (.call 40 [(.o .idx (.o .cons (.v 1) (.o .cons (.v 2) .nil)) (.v 8))] 1
 (.need (.o .le (.u .slen (.o .cat (.s [32]) (.v 9))) (.i 9223372036854775807)) (.need (.o .le (.u .slen (.o .cat (.v 7) (.o .cat (.s [32]) (.v 9)))) (.i 9223372036854775807)) (.next 0 [(.o .cat (.v 7) (.o .cat (.s [32]) (.v 9))), (.o (.add .i64) (.v 8) (.i 1))]))))))
 (.leaf [(.v 7)])))
 (.ite (.o .eq (.v 0) (.i 4))
 (.loop [(.s [115, 117, 109]), (.i 0)]
 (.ite (.o .lt (.v 8) (.u .len (.o .cons (.v 3) (.o .cons (.v 1) (.o .cons (.v 2) .nil)))))
 (.need (.o .le (.i 0) (.v 8)) (.need (.o .lt (.v 8) (.u .len (.o .cons (.v 3) (.o .cons (.v 1) (.o .cons (.v 2) .nil))))) (.call 40 [(.o .idx (.o .cons (.v 3) (.o .cons (.v 1) (.o .cons (.v 2) .nil))) (.v 8))] 1
 (.need (.o .le (.u .slen (.o .cat (.s [32]) (.v 9))) (.i 9223372036854775807)) (.need (.o .le (.u .slen (.o .cat (.v 7) (.o .cat (.s [32]) (.v 9)))) (.i 9223372036854775807)) (.next 0 [(.o .cat (.v 7) (.o .cat (.s [32]) (.v 9))), (.o (.add .i64) (.v 8) (.i 1))]))))))
 (.leaf [(.v 7)])))
 (.ite (.o .eq (.v 0) (.i 5))
 (.loop [(.s [103, 101, 111, 109]), (.i 0)]
 (.ite (.o .lt (.v 8) (.u .len (.o .cons (.v 1) (.o .cons (.v 2) .nil))))
 (.need (.o .le (.i 0) (.v 8)) (.need (.o .lt (.v 8) (.u .len (.o .cons (.v 1) (.o .cons (.v 2) .nil)))) (.call 40 [(.o .idx (.o .cons (.v 1) (.o .cons (.v 2) .nil)) (.v 8))] 1
 (.need (.o .le (.u .slen (.o .cat (.s [32]) (.v 9))) (.i 9223372036854775807)) (.need (.o .le (.u .slen (.o .cat (.v 7) (.o .cat (.s [32]) (.v 9)))) (.i 9223372036854775807)) (.next 0 [(.o .cat (.v 7) (.o .cat (.s [32]) (.v 9))), (.o (.add .i64) (.v 8) (.i 1))]))))))
 (.leaf [(.v 7)])))
 (.need (.o .le (.u .len (.u .bytes (.s [116, 97, 98, 108, 101]))) (.i 140737488355328)) (.loop [(.i 0), (.u .bytes (.s [116, 97, 98, 108, 101]))]
 (.ite (.o .lt (.v 7) (.u .len (.v 4)))
 (.need (.o .le (.i 0) (.v 7)) (.need (.o .lt (.v 7) (.u .len (.v 4))) (.call 40 [(.o .idx (.v 4) (.v 7))] 1
 (.need (.o .le (.u .slen (.o .cat (.s [32]) (.v 9))) (.i 9223372036854775807)) (.need (.o .le (.u .slen (.o .cat (.o .cat (.s [32]) (.v 9)) (.s [58]))) (.i 9223372036854775807)) (.need (.o .le (.i 0) (.v 7)) (.need (.o .lt (.v 7) (.u .len (.v 5))) (.call 40 [(.o .idx (.v 5) (.v 7))] 1
 (.need (.o .le (.u .slen (.o .cat (.o .cat (.o .cat (.s [32]) (.v 9)) (.s [58])) (.v 10))) (.i 9223372036854775807)) (.need (.o .le (.u .len (.o .app (.v 8) (.u .bytes (.o .cat (.o .cat (.o .cat (.s [32]) (.v 9)) (.s [58])) (.v 10))))) (.i 140737488355328)) (.next 0 [(.o (.add .i64) (.v 7) (.i 1)), (.o .app (.v 8) (.u .bytes (.o .cat (.o .cat (.o .cat (.s [32]) (.v 9)) (.s [58])) (.v 10))))])))))))))))
 (.need (.u .isb (.v 8)) (.leaf [(.u .ofb (.v 8))])))))))))))
noncomputable def k_dist_Text : Known Tryd.prog := known mixedOk [k_dist_Check, k_num_Text] (by decide) [⟨1800016, [(52, 0)], [53, 54, 55, 56, 5, 6, 57, 58, 59, 60, 61, 62, 63, 64, 65, 66, 67, 68, 69], [(1, (1, 0))], []⟩, ⟨3900002, [(0, 0), (9, 0)], [10, 11, 12, 6, 13, 14, 15, 16, 17, 18], [], []⟩] plTypes plOk inFuncs insOk 6 ⟨18, [(.g [(.ck (.int .i64)), (.ck (.int .i64)), (.ck (.int .i64)), (.ck (.int .i64)), (.row 3 [(.int .i64)] false), (.row 3 [(.int .i64)] false)])], (.c (.a (.ck .str)))⟩ (fun args w => Tryd.call18 args w) tk_dist_Text (by kernel_rfl)
theorem k_dist_Text_f : k_dist_Text.con.f = 18 := rfl
theorem k_dist_Text_F (l : List Sc) : k_dist_Text.F l = if l.length = 6 then tk_dist_Text.den (gam (P := Tryd.prog) [k_dist_Check, k_num_Text]) l [] else none := rfl
def tk_simulatorref04_Text : T (List Ex) :=
 (.call 15 [(.v 0), (.v 1), (.v 2), (.v 3), (.v 4), (.v 5)] 1
 (.ite (.o .ne (.v 6) (.i 0))
 (.leaf [(.s [])])
 (.ite (.o .eq (.v 0) (.i 1))
 (.call 43 [(.v 1)] 1
 (.need (.o .le (.u .slen (.o .cat (.s [99, 111, 110, 115, 116, 32]) (.v 7))) (.i 9223372036854775807)) (.leaf [(.o .cat (.s [99, 111, 110, 115, 116, 32]) (.v 7))])))
 (.ite (.o .eq (.v 0) (.i 2))
 (.call 43 [(.v 1)] 1
 (.need (.o .le (.u .slen (.o .cat (.s [117, 110, 105, 102, 111, 114, 109, 32]) (.v 7))) (.i 9223372036854775807)) (.need (.o .le (.u .slen (.o .cat (.o .cat (.s [117, 110, 105, 102, 111, 114, 109, 32]) (.v 7)) (.s [32]))) (.i 9223372036854775807)) (.call 43 [(.v 2)] 1
 (.need (.o .le (.u .slen (.o .cat (.o .cat (.o .cat (.s [117, 110, 105, 102, 111, 114, 109, 32]) (.v 7)) (.s [32])) (.v 8))) (.i 9223372036854775807)) (.leaf [(.o .cat (.o .cat (.o .cat (.s [117, 110, 105, 102, 111, 114, 109, 32]) (.v 7)) (.s [32])) (.v 8))]))))))
 (.ite (.o .eq (.v 0) (.i 4))
 (.call 43 [(.v 3)] 1
 (.need (.o .le (.u .slen (.o .cat (.s [115, 117, 109, 32]) (.v 7))) (.i 9223372036854775807)) (.need (.o .le (.u .slen (.o .cat (.o .cat (.s [115, 117, 109, 32]) (.v 7)) (.s [32]))) (.i 9223372036854775807)) (.call 43 [(.v 1)] 1
 (.need (.o .le (.u .slen (.o .cat (.o .cat (.o .cat (.s [115, 117, 109, 32]) (.v 7)) (.s [32])) (.v 8))) (.i 9223372036854775807)) (.need (.o .le (.u .slen (.o .cat (.o .cat (.o .cat (.o .cat (.s [115, 117, 109, 32]) (.v 7)) (.s [32])) (.v 8)) (.s [32]))) (.i 9223372036854775807)) (.call 43 [(.v 2)] 1
 (.need (.o .le (.u .slen (.o .cat (.o .cat (.o .cat (.o .cat (.o .cat (.s [115, 117, 109, 32]) (.v 7)) (.s [32])) (.v 8)) (.s [32])) (.v 9))) (.i 9223372036854775807)) (.leaf [(.o .cat (.o .cat (.o .cat (.o .cat (.o .cat (.s [115, 117, 109, 32]) (.v 7)) (.s [32])) (.v 8)) (.s [32])) (.v 9))])))))))))
 (.ite (.o .eq (.v 0) (.i 5))
 (.call 43 [(.v 1)] 1
 (.need (.o .le (.u .slen (.o .cat (.s [103, 101, 111, 109, 32]) (.v 7))) (.i 9223372036854775807)) (.need (.o .le (.u .slen (.o .cat (.o .cat (.s [103, 101, 111, 109, 32]) (.v 7)) (.s [32]))) (.i 9223372036854775807)) (.call 43 [(.v 2)] 1
 (.need (.o .le (.u .slen (.o .cat (.o .cat (.o .cat (.s [103, 101, 111, 109, 32]) (.v 7)) (.s [32])) (.v 8))) (.i 9223372036854775807)) (.leaf [(.o .cat (.o .cat (.o .cat (.s [103, 101, 111, 109, 32]) (.v 7)) (.s [32])) (.v 8))]))))))
 (.loop [(.s [116, 97, 98, 108, 101]), (.i 0)]
 (.ite (.o .lt (.v 8) (.u .len (.v 4)))
 (.need (.o .le (.u .slen (.o .cat (.v 7) (.s [32]))) (.i 9223372036854775807)) (.need (.o .le (.i 0) (.v 8)) (.need (.o .lt (.v 8) (.u .len (.v 4))) (.call 43 [(.o .idx (.v 4) (.v 8))] 1
 (.need (.o .le (.u .slen (.o .cat (.o .cat (.v 7) (.s [32])) (.v 9))) (.i 9223372036854775807)) (.need (.o .le (.u .slen (.o .cat (.o .cat (.o .cat (.v 7) (.s [32])) (.v 9)) (.s [58]))) (.i 9223372036854775807)) (.need (.o .le (.i 0) (.v 8)) (.need (.o .lt (.v 8) (.u .len (.v 5))) (.call 43 [(.o .idx (.v 5) (.v 8))] 1
 (.need (.o .le (.u .slen (.o .cat (.o .cat (.o .cat (.o .cat (.v 7) (.s [32])) (.v 9)) (.s [58])) (.v 10))) (.i 9223372036854775807)) (.next 0 [(.o .cat (.o .cat (.o .cat (.o .cat (.v 7) (.s [32])) (.v 9)) (.s [58])) (.v 10)), (.o (.add .i64) (.v 8) (.i 1))])))))))))))
 (.leaf [(.v 7)])))))))))
noncomputable def k_simulatorref04_Text : Known Tryd.prog := known mixedOk [k_simulatorref04_Check, k_simulatorref01_Text] (by decide) [⟨1900014, [(3, 0), (4, 0)], [54, 55, 56, 57, 58, 61, 62, 63, 64, 65, 66, 67, 68, 69, 70, 71, 72, 73, 74, 75, 76, 77, 59, 60], [], []⟩] plTypes plOk inFuncs insOk 6 ⟨19, [(.g [(.ck (.int .i64)), (.ck (.int .i64)), (.ck (.int .i64)), (.ck (.int .i64)), (.row 3 [(.int .i64)] false), (.row 3 [(.int .i64)] false)])], (.c (.a (.ck .str)))⟩ (fun args w => Tryd.call19 args w) tk_simulatorref04_Text (by kernel_rfl)
theorem k_simulatorref04_Text_f : k_simulatorref04_Text.con.f = 19 := rfl
theorem k_simulatorref04_Text_F (l : List Sc) : k_simulatorref04_Text.F l = if l.length = 6 then tk_simulatorref04_Text.den (gam (P := Tryd.prog) [k_simulatorref04_Check, k_simulatorref01_Text]) l [] else none := rfl
def tk_frac_Of : T (List Ex) :=
 (.ite (.o .eq (.v 1) (.i 0))
 (.leaf [(.i 0), (.i 0), (.b false)])
 (.call 56 [(.v 0)] 1
 (.call 56 [(.v 1)] 1
 (.call 55 [(.v 2), (.v 3)] 1
 (.call 56 [(.v 0)] 1
 (.need (.o .ne (.v 4) (.i 0)) (.call 56 [(.v 1)] 1
 (.need (.o .ne (.v 4) (.i 0)) (.call 57 [(.u .not (.o .beq (.o .lt (.v 0) (.i 0)) (.o .lt (.v 1) (.i 0)))), (.o (.quo .u64) (.v 5) (.v 4)), (.o (.quo .u64) (.v 6) (.v 4))] 3
 (.leaf [(.v 7), (.v 8), (.v 9)]))))))))))
noncomputable def k_frac_Of : Known Tryd.prog := known mixedOk [k_frac_size, k_frac_gcd, k_frac_made] (by decide) [] plTypes plOk inFuncs insOk 6 ⟨28, [(.a (.ck (.int .i64))), (.a (.ck (.int .i64)))], (.t [(.g [(.ck (.int .i64)), (.ck (.int .i64))]), (.a (.ck .bool))])⟩ (fun args w => Tryd.call28 args w) tk_frac_Of (by kernel_rfl)
theorem k_frac_Of_f : k_frac_Of.con.f = 28 := rfl
theorem k_frac_Of_F (l : List Sc) : k_frac_Of.F l = if l.length = 2 then tk_frac_Of.den (gam (P := Tryd.prog) [k_frac_size, k_frac_gcd, k_frac_made]) l [] else none := rfl
def tk_dist_upper : T (List Ex) :=
 (.call 64 [(.v 0), (.u (.conv .u64) (.v 1))] 2
 (.leaf [(.u (.conv .i64) (.v 2))]))
noncomputable def k_dist_upper : Known Tryd.prog := known mixedOk [k_bits_Mul64] (by decide) [] plTypes plOk inFuncs insOk 6 ⟨44, [(.a (.ck (.int .u64))), (.a (.ck (.int .i64)))], (.c (.a (.ck (.int .i64))))⟩ (fun args w => Tryd.call44 args w) tk_dist_upper (by kernel_rfl)
theorem k_dist_upper_f : k_dist_upper.con.f = 44 := rfl
theorem k_dist_upper_F (l : List Sc) : k_dist_upper.F l = if l.length = 2 then tk_dist_upper.den (gam (P := Tryd.prog) [k_bits_Mul64]) l [] else none := rfl
def tk_simulatorref04_uniform : T (List Ex) :=
 (.call 69 [(.v 2), (.u (.conv .u64) (.o (.add .i64) (.o (.sub .i64) (.v 1) (.v 0)) (.i 1)))] 1
 (.leaf [(.o (.add .i64) (.v 0) (.u (.conv .i64) (.v 3)))]))
noncomputable def k_simulatorref04_uniform : Known Tryd.prog := known mixedOk [k_simulatorref04_Upper] (by decide) [] plTypes plOk inFuncs insOk 6 ⟨47, [(.a (.ck (.int .i64))), (.a (.ck (.int .i64))), (.a (.ck (.int .u64)))], (.c (.a (.ck (.int .i64))))⟩ (fun args w => Tryd.call47 args w) tk_simulatorref04_uniform (by kernel_rfl)
theorem k_simulatorref04_uniform_f : k_simulatorref04_uniform.con.f = 47 := rfl
theorem k_simulatorref04_uniform_F (l : List Sc) : k_simulatorref04_uniform.F l = if l.length = 3 then tk_simulatorref04_uniform.den (gam (P := Tryd.prog) [k_simulatorref04_Upper]) l [] else none := rfl
def tk_simulatorref04_tabled : T (List Ex) :=
 (.call 31 [(.v 5)] 1
 (.call 69 [(.v 6), (.u (.conv .u64) (.v 7))] 1
 (.need (.o .le (.i 0) (.u .len (.v 4))) (.need (.o .le (.u .len (.v 4)) (.u .len (.v 4))) (.need (.o .le (.u .len (.v 4)) (.i 16777216)) (.loop [(.i 0), (.u (.conv .i64) (.v 8)), (.i 0), (.o .rep (.b false) (.u .len (.v 4)))]
 (.ite (.o .lt (.v 11) (.u .len (.v 4)))
 (.loop [(.i (-1)), (.i 0)]
 (.ite (.o .lt (.v 14) (.u .len (.v 4)))
 (.need (.o .le (.i 0) (.v 14)) (.need (.o .lt (.v 14) (.u .len (.v 12))) (.ite (.u .not (.o .idx (.v 12) (.v 14)))
 (.ite (.o .lt (.v 13) (.i 0))
 (.next 1 [(.v 14), (.o (.add .i64) (.v 14) (.i 1))])
 (.need (.o .le (.i 0) (.v 14)) (.need (.o .lt (.v 14) (.u .len (.v 4))) (.need (.o .le (.i 0) (.v 13)) (.need (.o .lt (.v 13) (.u .len (.v 4))) (.ite (.o .lt (.o .idx (.v 4) (.v 14)) (.o .idx (.v 4) (.v 13)))
 (.next 1 [(.v 14), (.o (.add .i64) (.v 14) (.i 1))])
 (.next 1 [(.v 13), (.o (.add .i64) (.v 14) (.i 1))])))))))
 (.next 1 [(.v 13), (.o (.add .i64) (.v 14) (.i 1))]))))
 (.need (.o .le (.i 0) (.v 13)) (.need (.o .lt (.v 13) (.u .len (.v 12))) (.need (.o .le (.i 0) (.v 13)) (.need (.o .lt (.v 13) (.u .len (.v 5))) (.ite (.o .lt (.o (.sub .i64) (.v 10) (.o .idx (.v 5) (.v 13))) (.i 0))
 (.need (.o .le (.i 0) (.v 13)) (.need (.o .lt (.v 13) (.u .len (.v 4))) (.leaf [(.o .idx (.v 4) (.v 13))])))
 (.next 0 [(.v 13), (.o (.sub .i64) (.v 10) (.o .idx (.v 5) (.v 13))), (.o (.add .i64) (.v 11) (.i 1)), (.t .upd (.v 12) (.v 13) (.b true))]))))))))
 (.need (.o .le (.i 0) (.v 9)) (.need (.o .lt (.v 9) (.u .len (.v 4))) (.leaf [(.o .idx (.v 4) (.v 9))]))))))))))
noncomputable def k_simulatorref04_tabled : Known Tryd.prog := known mixedOk [k_simulatorref04_Sum, k_simulatorref04_Upper] (by decide) [⟨4800009, [(7, 0), (9, 0)], [28, 29, 30, 31, 32, 35, 36, 37, 38, 39, 40, 41, 42, 43, 44, 45, 46, 47, 48, 49, 50, 51, 52, 53, 54, 55, 56, 57, 33, 34], [], []⟩, ⟨4800005, [(7, 0), (5, 0), (8, 0)], [21, 22, 23, 24, 25, 9, 28, 29, 30, 31, 32, 35, 36, 37, 38, 39, 40, 41, 42, 43, 44, 45, 46, 47, 48, 49, 50, 51, 52, 53, 54, 55, 56, 57, 33, 34, 58, 59, 60, 61, 62, 63, 64, 65, 66, 67, 68, 69, 70, 71, 72, 73, 74, 4, 26, 27], [], [2]⟩] plTypes plOk inFuncs insOk 6 ⟨48, [(.g [(.ck (.int .i64)), (.ck (.int .i64)), (.ck (.int .i64)), (.ck (.int .i64)), (.row 3 [(.int .i64)] false), (.row 3 [(.int .i64)] false)]), (.a (.ck (.int .u64)))], (.c (.a (.ck (.int .i64))))⟩ (fun args w => Tryd.call48 args w) tk_simulatorref04_tabled (by kernel_rfl)
theorem k_simulatorref04_tabled_f : k_simulatorref04_tabled.con.f = 48 := rfl
theorem k_simulatorref04_tabled_F (l : List Sc) : k_simulatorref04_tabled.F l = if l.length = 7 then tk_simulatorref04_tabled.den (gam (P := Tryd.prog) [k_simulatorref04_Sum, k_simulatorref04_Upper]) l [] else none := rfl
def tk_simulatorref03_Next : T (List Ex) :=
 (.call 72 [(.v 0), (.v 1), (.v 2)] 1
 (.ite (.v 3)
 (.leaf [(.i 0), (.v 0), (.v 1), (.v 2)])
 (.call 73 [(.o (.add .u64) (.v 0) (.o (.mul .u64) (.u (.conv .u64) (.o (.add .i64) (.v 1) (.i 1))) (.i 11400714819323198485)))] 1
 (.ite (.v 2)
 (.leaf [(.o (.bxor .u64) (.i 18446744073709551615) (.v 4)), (.v 0), (.o (.add .i64) (.v 1) (.i 1)), (.v 2)])
 (.leaf [(.v 4), (.v 0), (.o (.add .i64) (.v 1) (.i 1)), (.v 2)])))))
noncomputable def k_simulatorref03_Next : Known Tryd.prog := known mixedOk [k_simulatorref03_ends, k_simulatorref03_Mix] (by decide) [] plTypes plOk inFuncs insOk 6 ⟨54, [(.g [(.ck (.int .u64)), (.ck (.int .i64)), (.ck .bool)])], (.t [(.a (.ck (.int .u64))), (.g [(.ck (.int .u64)), (.ck (.int .i64)), (.ck .bool)])])⟩ (fun args w => Tryd.call54 args w) tk_simulatorref03_Next (by kernel_rfl)
theorem k_simulatorref03_Next_f : k_simulatorref03_Next.con.f = 54 := rfl
theorem k_simulatorref03_Next_F (l : List Sc) : k_simulatorref03_Next.F l = if l.length = 3 then tk_simulatorref03_Next.den (gam (P := Tryd.prog) [k_simulatorref03_ends, k_simulatorref03_Mix]) l [] else none := rfl
def tk_cmp_Compare_int_ : T (List Ex) :=
 (.call 80 [(.v 0)] 1
 (.call 80 [(.v 1)] 1
 (.ite (.v 2)
 (.ite (.v 3)
 (.leaf [(.i 0)])
 (.leaf [(.i (-1))]))
 (.ite (.v 3)
 (.leaf [(.i 1)])
 (.ite (.o .lt (.v 0) (.v 1))
 (.leaf [(.i (-1))])
 (.ite (.o .lt (.v 1) (.v 0))
 (.leaf [(.i 1)])
 (.leaf [(.i 0)])))))))
noncomputable def k_cmp_Compare_int_ : Known Tryd.prog := known mixedOk [k_cmp_isNaN_int_] (by decide) [] plTypes plOk inFuncs insOk 6 ⟨67, [(.a (.ck (.int .i64))), (.a (.ck (.int .i64)))], (.c (.a (.ck (.int .i64))))⟩ (fun args w => Tryd.call67 args w) tk_cmp_Compare_int_ (by kernel_rfl)
theorem k_cmp_Compare_int__f : k_cmp_Compare_int_.con.f = 67 := rfl
theorem k_cmp_Compare_int__F (l : List Sc) : k_cmp_Compare_int_.F l = if l.length = 2 then tk_cmp_Compare_int_.den (gam (P := Tryd.prog) [k_cmp_isNaN_int_]) l [] else none := rfl
def tk_stream_number : T (List Ex) :=
 (.call 82 [(.o (.add .u64) (.v 0) (.o (.mul .u64) (.u (.conv .u64) (.v 3)) (.i 11400714819323198485)))] 1
 (.ite (.v 2)
 (.leaf [(.o (.bxor .u64) (.i 18446744073709551615) (.v 4))])
 (.leaf [(.v 4)])))
noncomputable def k_stream_number : Known Tryd.prog := known mixedOk [k_stream_Mix] (by decide) [] plTypes plOk inFuncs insOk 6 ⟨71, [(.g [(.ck (.int .u64)), (.ck (.int .i64)), (.ck .bool)]), (.a (.ck (.int .i64)))], (.c (.a (.ck (.int .u64))))⟩ (fun args w => Tryd.call71 args w) tk_stream_number (by kernel_rfl)
theorem k_stream_number_f : k_stream_number.con.f = 71 := rfl
theorem k_stream_number_F (l : List Sc) : k_stream_number.F l = if l.length = 4 then tk_stream_number.den (gam (P := Tryd.prog) [k_stream_Mix]) l [] else none := rfl
def tk_simulatorref02_Divide : T (List Ex) :=
 (.loop [(.i 127), (.i 0), (.i 0), (.i 0), (.i 0)]
 (.ite (.o .le (.i 0) (.v 4))
 (.call 83 [(.v 5), (.v 6), (.v 5), (.v 6)] 2
 (.call 83 [(.v 7), (.v 8), (.v 7), (.v 8)] 2
 (.call 84 [(.v 0), (.v 1), (.v 4)] 1
 (.call 83 [(.v 11), (.v 12), (.i 0), (.v 13)] 2
 (.call 85 [(.v 14), (.v 15), (.v 2), (.v 3)] 1
 (.ite (.u .not (.v 16))
 (.call 86 [(.v 14), (.v 15), (.v 2), (.v 3)] 2
 (.next 0 [(.o (.sub .i64) (.v 4) (.i 1)), (.v 9), (.o (.add .u64) (.v 10) (.i 1)), (.v 17), (.v 18)]))
 (.next 0 [(.o (.sub .i64) (.v 4) (.i 1)), (.v 9), (.v 10), (.v 14), (.v 15)])))))))
 (.leaf [(.v 5), (.v 6), (.v 7), (.v 8)])))
noncomputable def k_simulatorref02_Divide : Known Tryd.prog := known mixedOk [k_simulatorref02_Plus, k_simulatorref02_bit, k_simulatorref02_Less, k_simulatorref02_Minus] (by decide) [⟨7500003, [(8, 0)], [11, 12, 15, 16, 17, 18, 19, 20, 21, 22, 23, 24, 25, 26, 27, 28, 29, 30, 31, 32, 33, 34, 35, 36, 13, 14], [(4, (0, 0)), (4, (1, 0)), (5, (0, 0)), (5, (1, 0))], []⟩] plTypes plOk inFuncs insOk 6 ⟨75, [(.g [(.ck (.int .u64)), (.ck (.int .u64))]), (.g [(.ck (.int .u64)), (.ck (.int .u64))])], (.t [(.g [(.ck (.int .u64)), (.ck (.int .u64))]), (.g [(.ck (.int .u64)), (.ck (.int .u64))])])⟩ (fun args w => Tryd.call75 args w) tk_simulatorref02_Divide (by kernel_rfl)
theorem k_simulatorref02_Divide_f : k_simulatorref02_Divide.con.f = 75 := rfl
theorem k_simulatorref02_Divide_F (l : List Sc) : k_simulatorref02_Divide.F l = if l.length = 4 then tk_simulatorref02_Divide.den (gam (P := Tryd.prog) [k_simulatorref02_Plus, k_simulatorref02_bit, k_simulatorref02_Less, k_simulatorref02_Minus]) l [] else none := rfl
def tk_bits_LeadingZeros64 : T (List Ex) :=
 (.call 90 [(.v 0)] 1
 (.leaf [(.o (.sub .i64) (.i 64) (.v 1))]))
noncomputable def k_bits_LeadingZeros64 : Known Tryd.prog := known mixedOk [k_bits_Len64] (by decide) [] plTypes plOk inFuncs insOk 6 ⟨81, [(.a (.ck (.int .u64)))], (.c (.a (.ck (.int .i64))))⟩ (fun args w => Tryd.call81 args w) tk_bits_LeadingZeros64 (by kernel_rfl)
theorem k_bits_LeadingZeros64_f : k_bits_LeadingZeros64.con.f = 81 := rfl
theorem k_bits_LeadingZeros64_F (l : List Sc) : k_bits_LeadingZeros64.F l = if l.length = 1 then tk_bits_LeadingZeros64.den (gam (P := Tryd.prog) [k_bits_Len64]) l [] else none := rfl
def tk_dist_Mean : T (List Ex) :=
 (.call 14 [(.v 0), (.v 1), (.v 2), (.v 3), (.v 4), (.v 5)] 1
 (.ite (.o .ne (.v 6) (.i 0))
 (.leaf [(.i 0), (.i 0), (.b false)])
 (.ite (.o .eq (.v 0) (.i 1))
 (.call 28 [(.v 1), (.i 1)] 3
 (.leaf [(.v 7), (.v 8), (.v 9)]))
 (.ite (.o .eq (.v 0) (.i 2))
 (.call 28 [(.o (.add .i64) (.v 1) (.v 2)), (.i 2)] 3
 (.leaf [(.v 7), (.v 8), (.v 9)]))
 (.ite (.o .eq (.v 0) (.i 4))
 (.call 28 [(.o (.mul .i64) (.v 3) (.o (.add .i64) (.v 1) (.v 2))), (.i 2)] 3
 (.leaf [(.v 7), (.v 8), (.v 9)]))
 (.ite (.o .eq (.v 0) (.i 3))
 (.loop [(.i 0), (.i 0)]
 (.ite (.o .lt (.v 8) (.u .len (.v 4)))
 (.need (.o .le (.i 0) (.v 8)) (.need (.o .lt (.v 8) (.u .len (.v 4))) (.need (.o .le (.i 0) (.v 8)) (.need (.o .lt (.v 8) (.u .len (.v 5))) (.next 0 [(.o (.add .i64) (.v 7) (.o (.mul .i64) (.o .idx (.v 4) (.v 8)) (.o .idx (.v 5) (.v 8)))), (.o (.add .i64) (.v 8) (.i 1))])))))
 (.call 29 [(.v 0), (.v 1), (.v 2), (.v 3), (.v 4), (.v 5)] 1
 (.call 28 [(.v 7), (.v 9)] 3
 (.leaf [(.v 10), (.v 11), (.v 12)])))))
 (.ite (.o .eq (.v 1) (.i 1))
 (.call 28 [(.i 1), (.i 1)] 3
 (.leaf [(.v 7), (.v 8), (.v 9)]))
 (.ite (.o .eq (.v 2) (.i 1))
 (.call 28 [(.i 1), (.i 1)] 3
 (.leaf [(.v 7), (.v 8), (.v 9)]))
 (.leaf [(.i 0), (.i 0), (.b false)])))))))))
noncomputable def k_dist_Mean : Known Tryd.prog := known mixedOk [k_dist_Check, k_frac_Of, k_dist_weight] (by decide) [⟨1200013, [(4, 0), (48, 0)], [49, 50, 51, 52, 5, 6, 53, 54, 55, 56, 57, 58, 59, 60, 61, 62], [], []⟩] plTypes plOk inFuncs insOk 6 ⟨12, [(.g [(.ck (.int .i64)), (.ck (.int .i64)), (.ck (.int .i64)), (.ck (.int .i64)), (.row 3 [(.int .i64)] false), (.row 3 [(.int .i64)] false)])], (.t [(.g [(.ck (.int .i64)), (.ck (.int .i64))]), (.a (.ck .bool))])⟩ (fun args w => Tryd.call12 args w) tk_dist_Mean (by kernel_rfl)
theorem k_dist_Mean_f : k_dist_Mean.con.f = 12 := rfl
theorem k_dist_Mean_F (l : List Sc) : k_dist_Mean.F l = if l.length = 6 then tk_dist_Mean.den (gam (P := Tryd.prog) [k_dist_Check, k_frac_Of, k_dist_weight]) l [] else none := rfl
def tk_simulatorref04_At : T (List Ex) :=
 (.call 15 [(.v 0), (.v 1), (.v 2), (.v 3), (.v 4), (.v 5)] 1
 (.ite (.o .ne (.v 7) (.i 0))
 (.leaf [(.i 0), (.b false)])
 (.ite (.o .eq (.v 0) (.i 1))
 (.leaf [(.v 1), (.b true)])
 (.ite (.o .eq (.v 0) (.i 2))
 (.call 47 [(.v 1), (.v 2), (.v 6)] 1
 (.leaf [(.v 8), (.b true)]))
 (.ite (.o .eq (.v 0) (.i 3))
 (.call 48 [(.v 0), (.v 1), (.v 2), (.v 3), (.v 4), (.v 5), (.v 6)] 1
 (.leaf [(.v 8), (.b true)]))
 (.ite (.o .eq (.v 0) (.i 5))
 (.call 49 [(.v 1), (.v 2), (.v 6)] 1
 (.leaf [(.v 8), (.b true)]))
 (.leaf [(.i 0), (.b false)])))))))
noncomputable def k_simulatorref04_At : Known Tryd.prog := known mixedOk [k_simulatorref04_Check, k_simulatorref04_uniform, k_simulatorref04_tabled, k_simulatorref04_geometric] (by decide) [] plTypes plOk inFuncs insOk 6 ⟨21, [(.g [(.ck (.int .i64)), (.ck (.int .i64)), (.ck (.int .i64)), (.ck (.int .i64)), (.row 3 [(.int .i64)] false), (.row 3 [(.int .i64)] false)]), (.a (.ck (.int .u64)))], (.t [(.a (.ck (.int .i64))), (.a (.ck .bool))])⟩ (fun args w => Tryd.call21 args w) tk_simulatorref04_At (by kernel_rfl)
theorem k_simulatorref04_At_f : k_simulatorref04_At.con.f = 21 := rfl
theorem k_simulatorref04_At_F (l : List Sc) : k_simulatorref04_At.F l = if l.length = 7 then tk_simulatorref04_At.den (gam (P := Tryd.prog) [k_simulatorref04_Check, k_simulatorref04_uniform, k_simulatorref04_tabled, k_simulatorref04_geometric]) l [] else none := rfl
def tk_simulatorref04_Least : T (List Ex) :=
 (.call 15 [(.v 0), (.v 1), (.v 2), (.v 3), (.v 4), (.v 5)] 1
 (.ite (.o .eq (.v 6) (.i 0))
 (.ite (.o .eq (.v 0) (.i 4))
 (.leaf [(.o (.mul .i64) (.v 3) (.v 1))])
 (.call 21 [(.v 0), (.v 1), (.v 2), (.v 3), (.v 4), (.v 5), (.i 0)] 2
 (.leaf [(.v 7)])))
 (.call 21 [(.v 0), (.v 1), (.v 2), (.v 3), (.v 4), (.v 5), (.i 0)] 2
 (.leaf [(.v 7)]))))
noncomputable def k_simulatorref04_Least : Known Tryd.prog := known mixedOk [k_simulatorref04_Check, k_simulatorref04_At] (by decide) [] plTypes plOk inFuncs insOk 6 ⟨23, [(.g [(.ck (.int .i64)), (.ck (.int .i64)), (.ck (.int .i64)), (.ck (.int .i64)), (.row 3 [(.int .i64)] false), (.row 3 [(.int .i64)] false)])], (.c (.a (.ck (.int .i64))))⟩ (fun args w => Tryd.call23 args w) tk_simulatorref04_Least (by kernel_rfl)
theorem k_simulatorref04_Least_f : k_simulatorref04_Least.con.f = 23 := rfl
theorem k_simulatorref04_Least_F (l : List Sc) : k_simulatorref04_Least.F l = if l.length = 6 then tk_simulatorref04_Least.den (gam (P := Tryd.prog) [k_simulatorref04_Check, k_simulatorref04_At]) l [] else none := rfl
def tk_simulatorref04_Most : T (List Ex) :=
 (.call 15 [(.v 0), (.v 1), (.v 2), (.v 3), (.v 4), (.v 5)] 1
 (.ite (.o .eq (.v 6) (.i 0))
 (.ite (.o .eq (.v 0) (.i 4))
 (.leaf [(.o (.mul .i64) (.v 3) (.v 2))])
 (.call 21 [(.v 0), (.v 1), (.v 2), (.v 3), (.v 4), (.v 5), (.i 18446744073709551615)] 2
 (.leaf [(.v 7)])))
 (.call 21 [(.v 0), (.v 1), (.v 2), (.v 3), (.v 4), (.v 5), (.i 18446744073709551615)] 2
 (.leaf [(.v 7)]))))
noncomputable def k_simulatorref04_Most : Known Tryd.prog := known mixedOk [k_simulatorref04_Check, k_simulatorref04_At] (by decide) [] plTypes plOk inFuncs insOk 6 ⟨25, [(.g [(.ck (.int .i64)), (.ck (.int .i64)), (.ck (.int .i64)), (.ck (.int .i64)), (.row 3 [(.int .i64)] false), (.row 3 [(.int .i64)] false)])], (.c (.a (.ck (.int .i64))))⟩ (fun args w => Tryd.call25 args w) tk_simulatorref04_Most (by kernel_rfl)
theorem k_simulatorref04_Most_f : k_simulatorref04_Most.con.f = 25 := rfl
theorem k_simulatorref04_Most_F (l : List Sc) : k_simulatorref04_Most.F l = if l.length = 6 then tk_simulatorref04_Most.den (gam (P := Tryd.prog) [k_simulatorref04_Check, k_simulatorref04_At]) l [] else none := rfl
def tk_simulatorref04_Draw : T (List Ex) :=
 (.call 15 [(.v 0), (.v 1), (.v 2), (.v 3), (.v 4), (.v 5)] 1
 (.ite (.o .eq (.v 9) (.i 0))
 (.call 53 [(.v 6), (.v 7), (.v 8)] 1
 (.ite (.o .ne (.v 10) (.i 0))
 (.leaf [(.i 0), (.i 0), (.i 0), (.b false), (.v 10)])
 (.ite (.o .eq (.v 0) (.i 4))
 (.ite (.o .lt (.o (.sub .i64) (.i 1000000000000) (.v 3)) (.v 7))
 (.leaf [(.i 0), (.i 0), (.i 0), (.b false), (.i 2)])
 (.loop [(.i 0), (.i 0), (.v 6), (.v 7), (.v 8)]
 (.ite (.o .lt (.v 12) (.v 3))
 (.call 54 [(.v 13), (.v 14), (.v 15)] 4
 (.ite (.o .eq (.v 0) (.i 4))
 (.call 47 [(.v 1), (.v 2), (.v 16)] 1
 (.next 0 [(.o (.add .i64) (.v 11) (.v 20)), (.o (.add .i64) (.v 12) (.i 1)), (.v 17), (.v 18), (.v 19)]))
 (.call 21 [(.v 0), (.v 1), (.v 2), (.v 3), (.v 4), (.v 5), (.v 16)] 2
 (.next 0 [(.v 20), (.o (.add .i64) (.v 12) (.i 1)), (.v 17), (.v 18), (.v 19)]))))
 (.leaf [(.v 11), (.v 13), (.v 14), (.v 15), (.i 0)]))))
 (.ite (.o .lt (.i 999999999999) (.v 7))
 (.leaf [(.i 0), (.i 0), (.i 0), (.b false), (.i 2)])
 (.loop [(.i 0), (.i 0), (.v 6), (.v 7), (.v 8)]
 (.ite (.o .lt (.v 12) (.i 1))
 (.call 54 [(.v 13), (.v 14), (.v 15)] 4
 (.ite (.o .eq (.v 0) (.i 4))
 (.call 47 [(.v 1), (.v 2), (.v 16)] 1
 (.next 0 [(.o (.add .i64) (.v 11) (.v 20)), (.o (.add .i64) (.v 12) (.i 1)), (.v 17), (.v 18), (.v 19)]))
 (.call 21 [(.v 0), (.v 1), (.v 2), (.v 3), (.v 4), (.v 5), (.v 16)] 2
 (.next 0 [(.v 20), (.o (.add .i64) (.v 12) (.i 1)), (.v 17), (.v 18), (.v 19)]))))
 (.leaf [(.v 11), (.v 13), (.v 14), (.v 15), (.i 0)])))))))
 (.ite (.o .ne (.v 9) (.i 0))
 (.leaf [(.i 0), (.i 0), (.i 0), (.b false), (.v 9)])
 (.ite (.o .eq (.v 0) (.i 4))
 (.ite (.o .lt (.o (.sub .i64) (.i 1000000000000) (.v 3)) (.v 7))
 (.leaf [(.i 0), (.i 0), (.i 0), (.b false), (.i 2)])
 (.loop [(.i 0), (.i 0), (.v 6), (.v 7), (.v 8)]
 (.ite (.o .lt (.v 11) (.v 3))
 (.call 54 [(.v 12), (.v 13), (.v 14)] 4
 (.ite (.o .eq (.v 0) (.i 4))
 (.call 47 [(.v 1), (.v 2), (.v 15)] 1
 (.next 0 [(.o (.add .i64) (.v 10) (.v 19)), (.o (.add .i64) (.v 11) (.i 1)), (.v 16), (.v 17), (.v 18)]))
 (.call 21 [(.v 0), (.v 1), (.v 2), (.v 3), (.v 4), (.v 5), (.v 15)] 2
 (.next 0 [(.v 19), (.o (.add .i64) (.v 11) (.i 1)), (.v 16), (.v 17), (.v 18)]))))
 (.leaf [(.v 10), (.v 12), (.v 13), (.v 14), (.i 0)]))))
 (.ite (.o .lt (.i 999999999999) (.v 7))
 (.leaf [(.i 0), (.i 0), (.i 0), (.b false), (.i 2)])
 (.loop [(.i 0), (.i 0), (.v 6), (.v 7), (.v 8)]
 (.ite (.o .lt (.v 11) (.i 1))
 (.call 54 [(.v 12), (.v 13), (.v 14)] 4
 (.ite (.o .eq (.v 0) (.i 4))
 (.call 47 [(.v 1), (.v 2), (.v 15)] 1
 (.next 0 [(.o (.add .i64) (.v 10) (.v 19)), (.o (.add .i64) (.v 11) (.i 1)), (.v 16), (.v 17), (.v 18)]))
 (.call 21 [(.v 0), (.v 1), (.v 2), (.v 3), (.v 4), (.v 5), (.v 15)] 2
 (.next 0 [(.v 19), (.o (.add .i64) (.v 11) (.i 1)), (.v 16), (.v 17), (.v 18)]))))
 (.leaf [(.v 10), (.v 12), (.v 13), (.v 14), (.i 0)]))))))))
noncomputable def k_simulatorref04_Draw : Known Tryd.prog := known mixedOk [k_simulatorref04_Check, k_simulatorref03_Check, k_simulatorref03_Next, k_simulatorref04_uniform, k_simulatorref04_At] (by decide) [⟨2700013, [(9, 0), (10, 0)], [36, 37, 38, 42, 43, 41, 44, 45, 12, 11, 46, 47, 48, 49, 50, 51, 52, 53, 54, 55, 56, 57, 59, 60, 61, 58, 62, 63, 13, 14, 64, 39, 40], [(1, (0, 0)), (1, (1, 0)), (1, (2, 0))], []⟩] plTypes plOk inFuncs insOk 6 ⟨27, [(.g [(.ck (.int .i64)), (.ck (.int .i64)), (.ck (.int .i64)), (.ck (.int .i64)), (.row 3 [(.int .i64)] false), (.row 3 [(.int .i64)] false)]), (.g [(.ck (.int .u64)), (.ck (.int .i64)), (.ck .bool)])], (.t [(.a (.ck (.int .i64))), (.g [(.ck (.int .u64)), (.ck (.int .i64)), (.ck .bool)]), (.a (.ck (.int .i64)))])⟩ (fun args w => Tryd.call27 args w) tk_simulatorref04_Draw (by kernel_rfl)
theorem k_simulatorref04_Draw_f : k_simulatorref04_Draw.con.f = 27 := rfl
theorem k_simulatorref04_Draw_F (l : List Sc) : k_simulatorref04_Draw.F l = if l.length = 9 then tk_simulatorref04_Draw.den (gam (P := Tryd.prog) [k_simulatorref04_Check, k_simulatorref03_Check, k_simulatorref03_Next, k_simulatorref04_uniform, k_simulatorref04_At]) l [] else none := rfl
def tk_dist_choose : T (List Ex) :=
 (.need (.o .le (.i 0) (.u .len (.v 4))) (.need (.o .le (.u .len (.v 4)) (.i 16777216)) (.loop [(.o .rep (.i 0) (.i 0)), (.i 0)]
 (.ite (.o .lt (.v 8) (.u .len (.v 4)))
 (.need (.o .le (.u .len (.o .snoc (.v 7) (.v 8))) (.i 17592186044416)) (.next 0 [(.o .snoc (.v 7) (.v 8)), (.o (.add .i64) (.v 8) (.i 1))]))
 (.loop [(.i 0), (.i 20), (.v 7)]
 (.ite (.o .le (.v 10) (.u .len (.v 7)))
 (.loop [(.o (.add .i64) (.v 9) (.i 1)), (.v 11)]
 (.ite (.o .lt (.v 12) (.v 10))
 (.loop [(.v 12), (.v 13)]
 (.ite (.o .lt (.v 9) (.v 14))
 (.need (.o .le (.i 0) (.v 14)) (.need (.o .lt (.v 14) (.u .len (.v 15))) (.need (.o .le (.i 0) (.o (.sub .i64) (.v 14) (.i 1))) (.need (.o .lt (.o (.sub .i64) (.v 14) (.i 1)) (.u .len (.v 15))) (.need (.o .le (.i 0) (.o .idx (.v 15) (.v 14))) (.need (.o .lt (.o .idx (.v 15) (.v 14)) (.u .len (.v 4))) (.need (.o .le (.i 0) (.o .idx (.v 15) (.o (.sub .i64) (.v 14) (.i 1)))) (.need (.o .lt (.o .idx (.v 15) (.o (.sub .i64) (.v 14) (.i 1))) (.u .len (.v 4))) (.call 67 [(.o .idx (.v 4) (.o .idx (.v 15) (.v 14))), (.o .idx (.v 4) (.o .idx (.v 15) (.o (.sub .i64) (.v 14) (.i 1))))] 1
 (.ite (.o .lt (.v 16) (.i 0))
 (.need (.o .le (.i 0) (.o (.sub .i64) (.v 14) (.i 1))) (.need (.o .lt (.o (.sub .i64) (.v 14) (.i 1)) (.u .len (.v 15))) (.need (.o .le (.i 0) (.v 14)) (.need (.o .lt (.v 14) (.u .len (.v 15))) (.need (.o .le (.i 0) (.v 14)) (.need (.o .lt (.v 14) (.u .len (.v 15))) (.need (.o .le (.i 0) (.o (.sub .i64) (.v 14) (.i 1))) (.need (.o .lt (.o (.sub .i64) (.v 14) (.i 1)) (.u .len (.t .upd (.v 15) (.v 14) (.o .idx (.v 15) (.o (.sub .i64) (.v 14) (.i 1)))))) (.next 3 [(.o (.sub .i64) (.v 14) (.i 1)), (.t .upd (.t .upd (.v 15) (.v 14) (.o .idx (.v 15) (.o (.sub .i64) (.v 14) (.i 1)))) (.o (.sub .i64) (.v 14) (.i 1)) (.o .idx (.v 15) (.v 14)))])))))))))
 (.next 2 [(.o (.add .i64) (.v 12) (.i 1)), (.v 15)])))))))))))
 (.next 2 [(.o (.add .i64) (.v 12) (.i 1)), (.v 15)])))
 (.next 1 [(.v 10), (.o (.add .i64) (.v 10) (.i 20)), (.v 13)])))
 (.loop [(.o (.add .i64) (.v 9) (.i 1)), (.v 11)]
 (.ite (.o .lt (.v 12) (.u .len (.v 7)))
 (.loop [(.v 12), (.v 13)]
 (.ite (.o .lt (.v 9) (.v 14))
 (.need (.o .le (.i 0) (.v 14)) (.need (.o .lt (.v 14) (.u .len (.v 15))) (.need (.o .le (.i 0) (.o (.sub .i64) (.v 14) (.i 1))) (.need (.o .lt (.o (.sub .i64) (.v 14) (.i 1)) (.u .len (.v 15))) (.need (.o .le (.i 0) (.o .idx (.v 15) (.v 14))) (.need (.o .lt (.o .idx (.v 15) (.v 14)) (.u .len (.v 4))) (.need (.o .le (.i 0) (.o .idx (.v 15) (.o (.sub .i64) (.v 14) (.i 1)))) (.need (.o .lt (.o .idx (.v 15) (.o (.sub .i64) (.v 14) (.i 1))) (.u .len (.v 4))) (.call 67 [(.o .idx (.v 4) (.o .idx (.v 15) (.v 14))), (.o .idx (.v 4) (.o .idx (.v 15) (.o (.sub .i64) (.v 14) (.i 1))))] 1
 (.ite (.o .lt (.v 16) (.i 0))
 (.need (.o .le (.i 0) (.o (.sub .i64) (.v 14) (.i 1))) (.need (.o .lt (.o (.sub .i64) (.v 14) (.i 1)) (.u .len (.v 15))) (.need (.o .le (.i 0) (.v 14)) (.need (.o .lt (.v 14) (.u .len (.v 15))) (.need (.o .le (.i 0) (.v 14)) (.need (.o .lt (.v 14) (.u .len (.v 15))) (.need (.o .le (.i 0) (.o (.sub .i64) (.v 14) (.i 1))) (.need (.o .lt (.o (.sub .i64) (.v 14) (.i 1)) (.u .len (.t .upd (.v 15) (.v 14) (.o .idx (.v 15) (.o (.sub .i64) (.v 14) (.i 1)))))) (.next 3 [(.o (.sub .i64) (.v 14) (.i 1)), (.t .upd (.t .upd (.v 15) (.v 14) (.o .idx (.v 15) (.o (.sub .i64) (.v 14) (.i 1)))) (.o (.sub .i64) (.v 14) (.i 1)) (.o .idx (.v 15) (.v 14)))])))))))))
 (.next 2 [(.o (.add .i64) (.v 12) (.i 1)), (.v 15)])))))))))))
 (.next 2 [(.o (.add .i64) (.v 12) (.i 1)), (.v 15)])))
 (.loop [(.v 9), (.v 10), (.i 20)]
 (.ite (.o .lt (.v 16) (.u .len (.v 7)))
 (.loop [(.i 0), (.o (.mul .i64) (.i 2) (.v 16))]
 (.ite (.o .le (.v 18) (.u .len (.v 7)))
 (.fail "op")
 (.ite (.o .lt (.o (.add .i64) (.v 17) (.v 16)) (.u .len (.v 7)))
 (.fail "op")
 (.next 3 [(.v 17), (.v 18), (.o (.mul .i64) (.v 16) (.i 2))]))))
 (.call 29 [(.v 0), (.v 1), (.v 2), (.v 3), (.v 4), (.v 5)] 1
 (.call 44 [(.v 6), (.v 17)] 1
 (.loop [(.v 18), (.i 0)]
 (.ite (.o .lt (.v 20) (.u .len (.v 13)))
 (.need (.o .le (.i 0) (.v 20)) (.need (.o .lt (.v 20) (.u .len (.v 13))) (.need (.o .le (.i 0) (.o .idx (.v 13) (.v 20))) (.need (.o .lt (.o .idx (.v 13) (.v 20)) (.u .len (.v 5))) (.ite (.o .lt (.v 19) (.o .idx (.v 5) (.o .idx (.v 13) (.v 20))))
 (.need (.o .le (.i 0) (.o .idx (.v 13) (.v 20))) (.need (.o .lt (.o .idx (.v 13) (.v 20)) (.u .len (.v 4))) (.leaf [(.o .idx (.v 4) (.o .idx (.v 13) (.v 20)))])))
 (.need (.o .le (.i 0) (.o .idx (.v 13) (.v 20))) (.need (.o .lt (.o .idx (.v 13) (.v 20)) (.u .len (.v 5))) (.next 4 [(.o (.sub .i64) (.v 19) (.o .idx (.v 5) (.o .idx (.v 13) (.v 20)))), (.o (.add .i64) (.v 20) (.i 1))]))))))))
 (.leaf [(.i 0)])))))))))))))))
noncomputable def k_dist_choose : Known Tryd.prog := known mixedOk [k_cmp_Compare_int_, k_dist_weight, k_dist_upper] (by decide) [⟨4500010, [(7, 0), (34, 0)], [35, 36, 37, 9, 38, 39, 40, 41, 42, 43, 44, 45, 46, 47, 48, 49, 4, 50, 51, 52, 53, 54, 55, 56, 57], [], []⟩, ⟨7900009, [(7, 0), (8, 0)], [33, 34, 35, 36, 37, 38, 39, 40, 41, 42, 43, 44, 45, 46, 47, 48], [], []⟩, ⟨7900007, [(7, 0), (8, 0), (6, 0)], [28, 29, 30, 31, 32, 33, 34, 35, 36, 37, 38, 39, 40, 41, 42, 43, 44, 45, 46, 47, 48, 49, 50, 51, 9, 52, 53, 54, 55, 56, 57, 58, 59, 60, 61, 62], [], []⟩, ⟨8800004, [(9, 0)], [18, 19, 20, 21, 22, 23, 24, 25, 26, 27, 28, 29, 30, 31, 32, 33, 34, 37, 38, 39, 40, 41, 42, 43, 44, 45, 46, 47, 48, 49, 50, 51, 52, 35, 36], [], [3]⟩, ⟨8800001, [(8, 0)], [12, 13, 14, 17, 9, 18, 19, 20, 21, 22, 23, 24, 25, 26, 27, 28, 29, 30, 31, 32, 33, 34, 37, 38, 39, 40, 41, 42, 43, 44, 45, 46, 47, 48, 49, 50, 51, 52, 35, 36, 15, 16], [], [3]⟩, ⟨7900002, [(7, 0), (8, 0)], [11, 12, 13, 14, 15, 16, 17, 18, 19, 20, 21, 22], [], [3]⟩, ⟨4500003, [(5, 3), (17, 0)], [18, 19, 6, 20, 21, 22, 23, 24], [], []⟩] plTypes plOk inFuncs insOk 6 ⟨45, [(.g [(.ck (.int .i64)), (.ck (.int .i64)), (.ck (.int .i64)), (.ck (.int .i64)), (.row 3 [(.int .i64)] false), (.row 3 [(.int .i64)] false)]), (.a (.ck (.int .u64)))], (.c (.a (.ck (.int .i64))))⟩ (fun args w => Tryd.call45 args w) tk_dist_choose (by kernel_rfl)
theorem k_dist_choose_f : k_dist_choose.con.f = 45 := rfl
theorem k_dist_choose_F (l : List Sc) : k_dist_choose.F l = if l.length = 7 then tk_dist_choose.den (gam (P := Tryd.prog) [k_cmp_Compare_int_, k_dist_weight, k_dist_upper]) l [] else none := rfl
def tk_stream_Next : T (List Ex) :=
 (.call 70 [(.v 0), (.v 1), (.v 2)] 1
 (.ite (.v 3)
 (.leaf [(.i 0), (.v 0), (.v 1), (.v 2)])
 (.call 71 [(.v 0), (.o (.add .i64) (.v 1) (.i 1)), (.v 2), (.o (.add .i64) (.v 1) (.i 1))] 1
 (.leaf [(.v 4), (.v 0), (.o (.add .i64) (.v 1) (.i 1)), (.v 2)]))))
noncomputable def k_stream_Next : Known Tryd.prog := known mixedOk [k_stream_ended, k_stream_number] (by decide) [] plTypes plOk inFuncs insOk 6 ⟨52, [(.g [(.ck (.int .u64)), (.ck (.int .i64)), (.ck .bool)])], (.t [(.a (.ck (.int .u64))), (.g [(.ck (.int .u64)), (.ck (.int .i64)), (.ck .bool)])])⟩ (fun args w => Tryd.call52 args w) tk_stream_Next (by kernel_rfl)
theorem k_stream_Next_f : k_stream_Next.con.f = 52 := rfl
theorem k_stream_Next_F (l : List Sc) : k_stream_Next.F l = if l.length = 3 then tk_stream_Next.den (gam (P := Tryd.prog) [k_stream_ended, k_stream_number]) l [] else none := rfl
def tk_bits_Div64 : T (List Ex) :=
 (.ite (.o .eq (.v 2) (.i 0))
 (.fail "op")
 (.ite (.o .le (.v 2) (.v 0))
 (.fail "op")
 (.ite (.o .eq (.v 0) (.i 0))
 (.need (.o .ne (.v 2) (.i 0)) (.need (.o .ne (.v 2) (.i 0)) (.leaf [(.o (.quo .u64) (.v 1) (.v 2)), (.o (.rem .u64) (.v 1) (.v 2))])))
 (.call 81 [(.v 2)] 1
 (.need (.o .le (.i 0) (.u (.conv .u64) (.v 3))) (.need (.o .le (.i 0) (.u (.conv .u64) (.v 3))) (.need (.o .le (.i 0) (.o (.sub .u64) (.i 64) (.u (.conv .u64) (.v 3)))) (.need (.o .le (.i 0) (.u (.conv .u64) (.v 3))) (.need (.o .ne (.o (.shr .u64) (.o (.shl .u64) (.v 2) (.u (.conv .u64) (.v 3))) (.i 32)) (.i 0)) (.loop [(.o (.quo .u64) (.o (.bor .u64) (.o (.shl .u64) (.v 0) (.u (.conv .u64) (.v 3))) (.o (.shr .u64) (.v 1) (.o (.sub .u64) (.i 64) (.u (.conv .u64) (.v 3))))) (.o (.shr .u64) (.o (.shl .u64) (.v 2) (.u (.conv .u64) (.v 3))) (.i 32))), (.o (.sub .u64) (.o (.bor .u64) (.o (.shl .u64) (.v 0) (.u (.conv .u64) (.v 3))) (.o (.shr .u64) (.v 1) (.o (.sub .u64) (.i 64) (.u (.conv .u64) (.v 3))))) (.o (.mul .u64) (.o (.quo .u64) (.o (.bor .u64) (.o (.shl .u64) (.v 0) (.u (.conv .u64) (.v 3))) (.o (.shr .u64) (.v 1) (.o (.sub .u64) (.i 64) (.u (.conv .u64) (.v 3))))) (.o (.shr .u64) (.o (.shl .u64) (.v 2) (.u (.conv .u64) (.v 3))) (.i 32))) (.o (.shr .u64) (.o (.shl .u64) (.v 2) (.u (.conv .u64) (.v 3))) (.i 32))))]
 (.ite (.o .le (.i 4294967296) (.v 4))
 (.ite (.o .le (.i 4294967296) (.o (.add .u64) (.v 5) (.o (.shr .u64) (.o (.shl .u64) (.v 2) (.u (.conv .u64) (.v 3))) (.i 32))))
 (.need (.o .ne (.o (.shr .u64) (.o (.shl .u64) (.v 2) (.u (.conv .u64) (.v 3))) (.i 32)) (.i 0)) (.loop [(.o (.quo .u64) (.o (.sub .u64) (.o (.add .u64) (.o (.mul .u64) (.o (.bor .u64) (.o (.shl .u64) (.v 0) (.u (.conv .u64) (.v 3))) (.o (.shr .u64) (.v 1) (.o (.sub .u64) (.i 64) (.u (.conv .u64) (.v 3))))) (.i 4294967296)) (.o (.shr .u64) (.o (.shl .u64) (.v 1) (.u (.conv .u64) (.v 3))) (.i 32))) (.o (.mul .u64) (.o (.sub .u64) (.v 4) (.i 1)) (.o (.shl .u64) (.v 2) (.u (.conv .u64) (.v 3))))) (.o (.shr .u64) (.o (.shl .u64) (.v 2) (.u (.conv .u64) (.v 3))) (.i 32))), (.o (.sub .u64) (.o (.sub .u64) (.o (.add .u64) (.o (.mul .u64) (.o (.bor .u64) (.o (.shl .u64) (.v 0) (.u (.conv .u64) (.v 3))) (.o (.shr .u64) (.v 1) (.o (.sub .u64) (.i 64) (.u (.conv .u64) (.v 3))))) (.i 4294967296)) (.o (.shr .u64) (.o (.shl .u64) (.v 1) (.u (.conv .u64) (.v 3))) (.i 32))) (.o (.mul .u64) (.o (.sub .u64) (.v 4) (.i 1)) (.o (.shl .u64) (.v 2) (.u (.conv .u64) (.v 3))))) (.o (.mul .u64) (.o (.quo .u64) (.o (.sub .u64) (.o (.add .u64) (.o (.mul .u64) (.o (.bor .u64) (.o (.shl .u64) (.v 0) (.u (.conv .u64) (.v 3))) (.o (.shr .u64) (.v 1) (.o (.sub .u64) (.i 64) (.u (.conv .u64) (.v 3))))) (.i 4294967296)) (.o (.shr .u64) (.o (.shl .u64) (.v 1) (.u (.conv .u64) (.v 3))) (.i 32))) (.o (.mul .u64) (.o (.sub .u64) (.v 4) (.i 1)) (.o (.shl .u64) (.v 2) (.u (.conv .u64) (.v 3))))) (.o (.shr .u64) (.o (.shl .u64) (.v 2) (.u (.conv .u64) (.v 3))) (.i 32))) (.o (.shr .u64) (.o (.shl .u64) (.v 2) (.u (.conv .u64) (.v 3))) (.i 32))))]
 (.ite (.o .le (.i 4294967296) (.v 6))
 (.ite (.o .le (.i 4294967296) (.o (.add .u64) (.v 7) (.o (.shr .u64) (.o (.shl .u64) (.v 2) (.u (.conv .u64) (.v 3))) (.i 32))))
 (.need (.o .le (.i 0) (.u (.conv .u64) (.v 3))) (.leaf [(.o (.add .u64) (.o (.mul .u64) (.o (.sub .u64) (.v 4) (.i 1)) (.i 4294967296)) (.o (.sub .u64) (.v 6) (.i 1))), (.o (.shr .u64) (.o (.sub .u64) (.o (.add .u64) (.o (.mul .u64) (.o (.sub .u64) (.o (.add .u64) (.o (.mul .u64) (.o (.bor .u64) (.o (.shl .u64) (.v 0) (.u (.conv .u64) (.v 3))) (.o (.shr .u64) (.v 1) (.o (.sub .u64) (.i 64) (.u (.conv .u64) (.v 3))))) (.i 4294967296)) (.o (.shr .u64) (.o (.shl .u64) (.v 1) (.u (.conv .u64) (.v 3))) (.i 32))) (.o (.mul .u64) (.o (.sub .u64) (.v 4) (.i 1)) (.o (.shl .u64) (.v 2) (.u (.conv .u64) (.v 3))))) (.i 4294967296)) (.o (.band .u64) (.o (.shl .u64) (.v 1) (.u (.conv .u64) (.v 3))) (.i 4294967295))) (.o (.mul .u64) (.o (.sub .u64) (.v 6) (.i 1)) (.o (.shl .u64) (.v 2) (.u (.conv .u64) (.v 3))))) (.u (.conv .u64) (.v 3)))]))
 (.next 1 [(.o (.sub .u64) (.v 6) (.i 1)), (.o (.add .u64) (.v 7) (.o (.shr .u64) (.o (.shl .u64) (.v 2) (.u (.conv .u64) (.v 3))) (.i 32)))]))
 (.ite (.o .lt (.o (.add .u64) (.o (.mul .u64) (.i 4294967296) (.v 7)) (.o (.band .u64) (.o (.shl .u64) (.v 1) (.u (.conv .u64) (.v 3))) (.i 4294967295))) (.o (.mul .u64) (.v 6) (.o (.band .u64) (.o (.shl .u64) (.v 2) (.u (.conv .u64) (.v 3))) (.i 4294967295))))
 (.ite (.o .le (.i 4294967296) (.o (.add .u64) (.v 7) (.o (.shr .u64) (.o (.shl .u64) (.v 2) (.u (.conv .u64) (.v 3))) (.i 32))))
 (.need (.o .le (.i 0) (.u (.conv .u64) (.v 3))) (.leaf [(.o (.add .u64) (.o (.mul .u64) (.o (.sub .u64) (.v 4) (.i 1)) (.i 4294967296)) (.o (.sub .u64) (.v 6) (.i 1))), (.o (.shr .u64) (.o (.sub .u64) (.o (.add .u64) (.o (.mul .u64) (.o (.sub .u64) (.o (.add .u64) (.o (.mul .u64) (.o (.bor .u64) (.o (.shl .u64) (.v 0) (.u (.conv .u64) (.v 3))) (.o (.shr .u64) (.v 1) (.o (.sub .u64) (.i 64) (.u (.conv .u64) (.v 3))))) (.i 4294967296)) (.o (.shr .u64) (.o (.shl .u64) (.v 1) (.u (.conv .u64) (.v 3))) (.i 32))) (.o (.mul .u64) (.o (.sub .u64) (.v 4) (.i 1)) (.o (.shl .u64) (.v 2) (.u (.conv .u64) (.v 3))))) (.i 4294967296)) (.o (.band .u64) (.o (.shl .u64) (.v 1) (.u (.conv .u64) (.v 3))) (.i 4294967295))) (.o (.mul .u64) (.o (.sub .u64) (.v 6) (.i 1)) (.o (.shl .u64) (.v 2) (.u (.conv .u64) (.v 3))))) (.u (.conv .u64) (.v 3)))]))
 (.next 1 [(.o (.sub .u64) (.v 6) (.i 1)), (.o (.add .u64) (.v 7) (.o (.shr .u64) (.o (.shl .u64) (.v 2) (.u (.conv .u64) (.v 3))) (.i 32)))]))
 (.need (.o .le (.i 0) (.u (.conv .u64) (.v 3))) (.leaf [(.o (.add .u64) (.o (.mul .u64) (.o (.sub .u64) (.v 4) (.i 1)) (.i 4294967296)) (.v 6)), (.o (.shr .u64) (.o (.sub .u64) (.o (.add .u64) (.o (.mul .u64) (.o (.sub .u64) (.o (.add .u64) (.o (.mul .u64) (.o (.bor .u64) (.o (.shl .u64) (.v 0) (.u (.conv .u64) (.v 3))) (.o (.shr .u64) (.v 1) (.o (.sub .u64) (.i 64) (.u (.conv .u64) (.v 3))))) (.i 4294967296)) (.o (.shr .u64) (.o (.shl .u64) (.v 1) (.u (.conv .u64) (.v 3))) (.i 32))) (.o (.mul .u64) (.o (.sub .u64) (.v 4) (.i 1)) (.o (.shl .u64) (.v 2) (.u (.conv .u64) (.v 3))))) (.i 4294967296)) (.o (.band .u64) (.o (.shl .u64) (.v 1) (.u (.conv .u64) (.v 3))) (.i 4294967295))) (.o (.mul .u64) (.v 6) (.o (.shl .u64) (.v 2) (.u (.conv .u64) (.v 3))))) (.u (.conv .u64) (.v 3)))]))))))
 (.next 0 [(.o (.sub .u64) (.v 4) (.i 1)), (.o (.add .u64) (.v 5) (.o (.shr .u64) (.o (.shl .u64) (.v 2) (.u (.conv .u64) (.v 3))) (.i 32)))]))
 (.ite (.o .lt (.o (.add .u64) (.o (.mul .u64) (.i 4294967296) (.v 5)) (.o (.shr .u64) (.o (.shl .u64) (.v 1) (.u (.conv .u64) (.v 3))) (.i 32))) (.o (.mul .u64) (.v 4) (.o (.band .u64) (.o (.shl .u64) (.v 2) (.u (.conv .u64) (.v 3))) (.i 4294967295))))
 (.ite (.o .le (.i 4294967296) (.o (.add .u64) (.v 5) (.o (.shr .u64) (.o (.shl .u64) (.v 2) (.u (.conv .u64) (.v 3))) (.i 32))))
 (.need (.o .ne (.o (.shr .u64) (.o (.shl .u64) (.v 2) (.u (.conv .u64) (.v 3))) (.i 32)) (.i 0)) (.loop [(.o (.quo .u64) (.o (.sub .u64) (.o (.add .u64) (.o (.mul .u64) (.o (.bor .u64) (.o (.shl .u64) (.v 0) (.u (.conv .u64) (.v 3))) (.o (.shr .u64) (.v 1) (.o (.sub .u64) (.i 64) (.u (.conv .u64) (.v 3))))) (.i 4294967296)) (.o (.shr .u64) (.o (.shl .u64) (.v 1) (.u (.conv .u64) (.v 3))) (.i 32))) (.o (.mul .u64) (.o (.sub .u64) (.v 4) (.i 1)) (.o (.shl .u64) (.v 2) (.u (.conv .u64) (.v 3))))) (.o (.shr .u64) (.o (.shl .u64) (.v 2) (.u (.conv .u64) (.v 3))) (.i 32))), (.o (.sub .u64) (.o (.sub .u64) (.o (.add .u64) (.o (.mul .u64) (.o (.bor .u64) (.o (.shl .u64) (.v 0) (.u (.conv .u64) (.v 3))) (.o (.shr .u64) (.v 1) (.o (.sub .u64) (.i 64) (.u (.conv .u64) (.v 3))))) (.i 4294967296)) (.o (.shr .u64) (.o (.shl .u64) (.v 1) (.u (.conv .u64) (.v 3))) (.i 32))) (.o (.mul .u64) (.o (.sub .u64) (.v 4) (.i 1)) (.o (.shl .u64) (.v 2) (.u (.conv .u64) (.v 3))))) (.o (.mul .u64) (.o (.quo .u64) (.o (.sub .u64) (.o (.add .u64) (.o (.mul .u64) (.o (.bor .u64) (.o (.shl .u64) (.v 0) (.u (.conv .u64) (.v 3))) (.o (.shr .u64) (.v 1) (.o (.sub .u64) (.i 64) (.u (.conv .u64) (.v 3))))) (.i 4294967296)) (.o (.shr .u64) (.o (.shl .u64) (.v 1) (.u (.conv .u64) (.v 3))) (.i 32))) (.o (.mul .u64) (.o (.sub .u64) (.v 4) (.i 1)) (.o (.shl .u64) (.v 2) (.u (.conv .u64) (.v 3))))) (.o (.shr .u64) (.o (.shl .u64) (.v 2) (.u (.conv .u64) (.v 3))) (.i 32))) (.o (.shr .u64) (.o (.shl .u64) (.v 2) (.u (.conv .u64) (.v 3))) (.i 32))))]
 (.ite (.o .le (.i 4294967296) (.v 6))
 (.ite (.o .le (.i 4294967296) (.o (.add .u64) (.v 7) (.o (.shr .u64) (.o (.shl .u64) (.v 2) (.u (.conv .u64) (.v 3))) (.i 32))))
 (.need (.o .le (.i 0) (.u (.conv .u64) (.v 3))) (.leaf [(.o (.add .u64) (.o (.mul .u64) (.o (.sub .u64) (.v 4) (.i 1)) (.i 4294967296)) (.o (.sub .u64) (.v 6) (.i 1))), (.o (.shr .u64) (.o (.sub .u64) (.o (.add .u64) (.o (.mul .u64) (.o (.sub .u64) (.o (.add .u64) (.o (.mul .u64) (.o (.bor .u64) (.o (.shl .u64) (.v 0) (.u (.conv .u64) (.v 3))) (.o (.shr .u64) (.v 1) (.o (.sub .u64) (.i 64) (.u (.conv .u64) (.v 3))))) (.i 4294967296)) (.o (.shr .u64) (.o (.shl .u64) (.v 1) (.u (.conv .u64) (.v 3))) (.i 32))) (.o (.mul .u64) (.o (.sub .u64) (.v 4) (.i 1)) (.o (.shl .u64) (.v 2) (.u (.conv .u64) (.v 3))))) (.i 4294967296)) (.o (.band .u64) (.o (.shl .u64) (.v 1) (.u (.conv .u64) (.v 3))) (.i 4294967295))) (.o (.mul .u64) (.o (.sub .u64) (.v 6) (.i 1)) (.o (.shl .u64) (.v 2) (.u (.conv .u64) (.v 3))))) (.u (.conv .u64) (.v 3)))]))
 (.next 1 [(.o (.sub .u64) (.v 6) (.i 1)), (.o (.add .u64) (.v 7) (.o (.shr .u64) (.o (.shl .u64) (.v 2) (.u (.conv .u64) (.v 3))) (.i 32)))]))
 (.ite (.o .lt (.o (.add .u64) (.o (.mul .u64) (.i 4294967296) (.v 7)) (.o (.band .u64) (.o (.shl .u64) (.v 1) (.u (.conv .u64) (.v 3))) (.i 4294967295))) (.o (.mul .u64) (.v 6) (.o (.band .u64) (.o (.shl .u64) (.v 2) (.u (.conv .u64) (.v 3))) (.i 4294967295))))
 (.ite (.o .le (.i 4294967296) (.o (.add .u64) (.v 7) (.o (.shr .u64) (.o (.shl .u64) (.v 2) (.u (.conv .u64) (.v 3))) (.i 32))))
 (.need (.o .le (.i 0) (.u (.conv .u64) (.v 3))) (.leaf [(.o (.add .u64) (.o (.mul .u64) (.o (.sub .u64) (.v 4) (.i 1)) (.i 4294967296)) (.o (.sub .u64) (.v 6) (.i 1))), (.o (.shr .u64) (.o (.sub .u64) (.o (.add .u64) (.o (.mul .u64) (.o (.sub .u64) (.o (.add .u64) (.o (.mul .u64) (.o (.bor .u64) (.o (.shl .u64) (.v 0) (.u (.conv .u64) (.v 3))) (.o (.shr .u64) (.v 1) (.o (.sub .u64) (.i 64) (.u (.conv .u64) (.v 3))))) (.i 4294967296)) (.o (.shr .u64) (.o (.shl .u64) (.v 1) (.u (.conv .u64) (.v 3))) (.i 32))) (.o (.mul .u64) (.o (.sub .u64) (.v 4) (.i 1)) (.o (.shl .u64) (.v 2) (.u (.conv .u64) (.v 3))))) (.i 4294967296)) (.o (.band .u64) (.o (.shl .u64) (.v 1) (.u (.conv .u64) (.v 3))) (.i 4294967295))) (.o (.mul .u64) (.o (.sub .u64) (.v 6) (.i 1)) (.o (.shl .u64) (.v 2) (.u (.conv .u64) (.v 3))))) (.u (.conv .u64) (.v 3)))]))
 (.next 1 [(.o (.sub .u64) (.v 6) (.i 1)), (.o (.add .u64) (.v 7) (.o (.shr .u64) (.o (.shl .u64) (.v 2) (.u (.conv .u64) (.v 3))) (.i 32)))]))
 (.need (.o .le (.i 0) (.u (.conv .u64) (.v 3))) (.leaf [(.o (.add .u64) (.o (.mul .u64) (.o (.sub .u64) (.v 4) (.i 1)) (.i 4294967296)) (.v 6)), (.o (.shr .u64) (.o (.sub .u64) (.o (.add .u64) (.o (.mul .u64) (.o (.sub .u64) (.o (.add .u64) (.o (.mul .u64) (.o (.bor .u64) (.o (.shl .u64) (.v 0) (.u (.conv .u64) (.v 3))) (.o (.shr .u64) (.v 1) (.o (.sub .u64) (.i 64) (.u (.conv .u64) (.v 3))))) (.i 4294967296)) (.o (.shr .u64) (.o (.shl .u64) (.v 1) (.u (.conv .u64) (.v 3))) (.i 32))) (.o (.mul .u64) (.o (.sub .u64) (.v 4) (.i 1)) (.o (.shl .u64) (.v 2) (.u (.conv .u64) (.v 3))))) (.i 4294967296)) (.o (.band .u64) (.o (.shl .u64) (.v 1) (.u (.conv .u64) (.v 3))) (.i 4294967295))) (.o (.mul .u64) (.v 6) (.o (.shl .u64) (.v 2) (.u (.conv .u64) (.v 3))))) (.u (.conv .u64) (.v 3)))]))))))
 (.next 0 [(.o (.sub .u64) (.v 4) (.i 1)), (.o (.add .u64) (.v 5) (.o (.shr .u64) (.o (.shl .u64) (.v 2) (.u (.conv .u64) (.v 3))) (.i 32)))]))
 (.need (.o .ne (.o (.shr .u64) (.o (.shl .u64) (.v 2) (.u (.conv .u64) (.v 3))) (.i 32)) (.i 0)) (.loop [(.o (.quo .u64) (.o (.sub .u64) (.o (.add .u64) (.o (.mul .u64) (.o (.bor .u64) (.o (.shl .u64) (.v 0) (.u (.conv .u64) (.v 3))) (.o (.shr .u64) (.v 1) (.o (.sub .u64) (.i 64) (.u (.conv .u64) (.v 3))))) (.i 4294967296)) (.o (.shr .u64) (.o (.shl .u64) (.v 1) (.u (.conv .u64) (.v 3))) (.i 32))) (.o (.mul .u64) (.v 4) (.o (.shl .u64) (.v 2) (.u (.conv .u64) (.v 3))))) (.o (.shr .u64) (.o (.shl .u64) (.v 2) (.u (.conv .u64) (.v 3))) (.i 32))), (.o (.sub .u64) (.o (.sub .u64) (.o (.add .u64) (.o (.mul .u64) (.o (.bor .u64) (.o (.shl .u64) (.v 0) (.u (.conv .u64) (.v 3))) (.o (.shr .u64) (.v 1) (.o (.sub .u64) (.i 64) (.u (.conv .u64) (.v 3))))) (.i 4294967296)) (.o (.shr .u64) (.o (.shl .u64) (.v 1) (.u (.conv .u64) (.v 3))) (.i 32))) (.o (.mul .u64) (.v 4) (.o (.shl .u64) (.v 2) (.u (.conv .u64) (.v 3))))) (.o (.mul .u64) (.o (.quo .u64) (.o (.sub .u64) (.o (.add .u64) (.o (.mul .u64) (.o (.bor .u64) (.o (.shl .u64) (.v 0) (.u (.conv .u64) (.v 3))) (.o (.shr .u64) (.v 1) (.o (.sub .u64) (.i 64) (.u (.conv .u64) (.v 3))))) (.i 4294967296)) (.o (.shr .u64) (.o (.shl .u64) (.v 1) (.u (.conv .u64) (.v 3))) (.i 32))) (.o (.mul .u64) (.v 4) (.o (.shl .u64) (.v 2) (.u (.conv .u64) (.v 3))))) (.o (.shr .u64) (.o (.shl .u64) (.v 2) (.u (.conv .u64) (.v 3))) (.i 32))) (.o (.shr .u64) (.o (.shl .u64) (.v 2) (.u (.conv .u64) (.v 3))) (.i 32))))]
 (.ite (.o .le (.i 4294967296) (.v 6))
 (.ite (.o .le (.i 4294967296) (.o (.add .u64) (.v 7) (.o (.shr .u64) (.o (.shl .u64) (.v 2) (.u (.conv .u64) (.v 3))) (.i 32))))
 (.need (.o .le (.i 0) (.u (.conv .u64) (.v 3))) (.leaf [(.o (.add .u64) (.o (.mul .u64) (.v 4) (.i 4294967296)) (.o (.sub .u64) (.v 6) (.i 1))), (.o (.shr .u64) (.o (.sub .u64) (.o (.add .u64) (.o (.mul .u64) (.o (.sub .u64) (.o (.add .u64) (.o (.mul .u64) (.o (.bor .u64) (.o (.shl .u64) (.v 0) (.u (.conv .u64) (.v 3))) (.o (.shr .u64) (.v 1) (.o (.sub .u64) (.i 64) (.u (.conv .u64) (.v 3))))) (.i 4294967296)) (.o (.shr .u64) (.o (.shl .u64) (.v 1) (.u (.conv .u64) (.v 3))) (.i 32))) (.o (.mul .u64) (.v 4) (.o (.shl .u64) (.v 2) (.u (.conv .u64) (.v 3))))) (.i 4294967296)) (.o (.band .u64) (.o (.shl .u64) (.v 1) (.u (.conv .u64) (.v 3))) (.i 4294967295))) (.o (.mul .u64) (.o (.sub .u64) (.v 6) (.i 1)) (.o (.shl .u64) (.v 2) (.u (.conv .u64) (.v 3))))) (.u (.conv .u64) (.v 3)))]))
 (.next 1 [(.o (.sub .u64) (.v 6) (.i 1)), (.o (.add .u64) (.v 7) (.o (.shr .u64) (.o (.shl .u64) (.v 2) (.u (.conv .u64) (.v 3))) (.i 32)))]))
 (.ite (.o .lt (.o (.add .u64) (.o (.mul .u64) (.i 4294967296) (.v 7)) (.o (.band .u64) (.o (.shl .u64) (.v 1) (.u (.conv .u64) (.v 3))) (.i 4294967295))) (.o (.mul .u64) (.v 6) (.o (.band .u64) (.o (.shl .u64) (.v 2) (.u (.conv .u64) (.v 3))) (.i 4294967295))))
 (.ite (.o .le (.i 4294967296) (.o (.add .u64) (.v 7) (.o (.shr .u64) (.o (.shl .u64) (.v 2) (.u (.conv .u64) (.v 3))) (.i 32))))
 (.need (.o .le (.i 0) (.u (.conv .u64) (.v 3))) (.leaf [(.o (.add .u64) (.o (.mul .u64) (.v 4) (.i 4294967296)) (.o (.sub .u64) (.v 6) (.i 1))), (.o (.shr .u64) (.o (.sub .u64) (.o (.add .u64) (.o (.mul .u64) (.o (.sub .u64) (.o (.add .u64) (.o (.mul .u64) (.o (.bor .u64) (.o (.shl .u64) (.v 0) (.u (.conv .u64) (.v 3))) (.o (.shr .u64) (.v 1) (.o (.sub .u64) (.i 64) (.u (.conv .u64) (.v 3))))) (.i 4294967296)) (.o (.shr .u64) (.o (.shl .u64) (.v 1) (.u (.conv .u64) (.v 3))) (.i 32))) (.o (.mul .u64) (.v 4) (.o (.shl .u64) (.v 2) (.u (.conv .u64) (.v 3))))) (.i 4294967296)) (.o (.band .u64) (.o (.shl .u64) (.v 1) (.u (.conv .u64) (.v 3))) (.i 4294967295))) (.o (.mul .u64) (.o (.sub .u64) (.v 6) (.i 1)) (.o (.shl .u64) (.v 2) (.u (.conv .u64) (.v 3))))) (.u (.conv .u64) (.v 3)))]))
 (.next 1 [(.o (.sub .u64) (.v 6) (.i 1)), (.o (.add .u64) (.v 7) (.o (.shr .u64) (.o (.shl .u64) (.v 2) (.u (.conv .u64) (.v 3))) (.i 32)))]))
 (.need (.o .le (.i 0) (.u (.conv .u64) (.v 3))) (.leaf [(.o (.add .u64) (.o (.mul .u64) (.v 4) (.i 4294967296)) (.v 6)), (.o (.shr .u64) (.o (.sub .u64) (.o (.add .u64) (.o (.mul .u64) (.o (.sub .u64) (.o (.add .u64) (.o (.mul .u64) (.o (.bor .u64) (.o (.shl .u64) (.v 0) (.u (.conv .u64) (.v 3))) (.o (.shr .u64) (.v 1) (.o (.sub .u64) (.i 64) (.u (.conv .u64) (.v 3))))) (.i 4294967296)) (.o (.shr .u64) (.o (.shl .u64) (.v 1) (.u (.conv .u64) (.v 3))) (.i 32))) (.o (.mul .u64) (.v 4) (.o (.shl .u64) (.v 2) (.u (.conv .u64) (.v 3))))) (.i 4294967296)) (.o (.band .u64) (.o (.shl .u64) (.v 1) (.u (.conv .u64) (.v 3))) (.i 4294967295))) (.o (.mul .u64) (.v 6) (.o (.shl .u64) (.v 2) (.u (.conv .u64) (.v 3))))) (.u (.conv .u64) (.v 3)))]))))))))))))))))))
noncomputable def k_bits_Div64 : Known Tryd.prog := known mixedOk [k_bits_LeadingZeros64] (by decide) [⟨6800024, [(18, 0), (16, 0)], [102, 103, 104, 105, 106, 107, 108, 109, 110, 111, 112, 113, 114, 115, 116, 117, 118, 119, 120], [], []⟩, ⟨6800017, [(15, 0), (16, 0)], [67, 68, 69, 70, 71, 72, 73, 74, 75, 76, 77, 78, 79, 80, 81, 82, 83, 84, 85], [], []⟩] plTypes plOk inFuncs insOk 6 ⟨68, [(.a (.ck (.int .u64))), (.a (.ck (.int .u64))), (.a (.ck (.int .u64)))], (.t [(.a (.ck (.int .u64))), (.a (.ck (.int .u64)))])⟩ (fun args w => Tryd.call68 args w) tk_bits_Div64 (by kernel_rfl)
theorem k_bits_Div64_f : k_bits_Div64.con.f = 68 := rfl
theorem k_bits_Div64_F (l : List Sc) : k_bits_Div64.F l = if l.length = 3 then tk_bits_Div64.den (gam (P := Tryd.prog) [k_bits_LeadingZeros64]) l [] else none := rfl
def tk_simulatorref02_common : T (List Ex) :=
 (.loop [(.v 0), (.v 1), (.v 2), (.v 3)]
 (.ite (.u .not (.o .and (.o .eq (.v 6) (.i 0)) (.o .and (.o .eq (.v 7) (.i 0)) (.b true))))
 (.call 75 [(.v 4), (.v 5), (.v 6), (.v 7)] 4
 (.next 0 [(.v 6), (.v 7), (.v 10), (.v 11)]))
 (.leaf [(.v 4), (.v 5)])))
noncomputable def k_simulatorref02_common : Known Tryd.prog := known mixedOk [k_simulatorref02_Divide] (by decide) [⟨7400001, [], [7, 8, 9, 11, 12, 13, 10, 14, 15, 5, 6, 16, 17], [(0, (0, 0)), (0, (1, 0)), (1, (0, 0)), (1, (1, 0))], []⟩] plTypes plOk inFuncs insOk 6 ⟨74, [(.g [(.ck (.int .u64)), (.ck (.int .u64))]), (.g [(.ck (.int .u64)), (.ck (.int .u64))])], (.c (.g [(.ck (.int .u64)), (.ck (.int .u64))]))⟩ (fun args w => Tryd.call74 args w) tk_simulatorref02_common (by kernel_rfl)
theorem k_simulatorref02_common_f : k_simulatorref02_common.con.f = 74 := rfl
theorem k_simulatorref02_common_F (l : List Sc) : k_simulatorref02_common.F l = if l.length = 4 then tk_simulatorref02_common.den (gam (P := Tryd.prog) [k_simulatorref02_Divide]) l [] else none := rfl
def tk_dist_trials : T (List Ex) :=
 (.loop [(.i 18446744073709551615), (.i 1)]
 (.ite (.o .lt (.v 8) (.v 2))
 (.call 64 [(.v 7), (.u (.conv .u64) (.o (.sub .i64) (.v 1) (.i 1)))] 2
 (.call 68 [(.v 9), (.v 10), (.u (.conv .u64) (.v 1))] 2
 (.ite (.o .le (.v 11) (.o (.bxor .u64) (.i 18446744073709551615) (.v 6)))
 (.leaf [(.v 8)])
 (.next 0 [(.v 11), (.o (.add .i64) (.v 8) (.i 1))]))))
 (.leaf [(.v 2)])))
noncomputable def k_dist_trials : Known Tryd.prog := known mixedOk [k_bits_Mul64, k_bits_Div64] (by decide) [⟨4600003, [(6, 0), (7, 0)], [12, 13, 14, 15, 19, 20, 21, 22, 23, 24, 18, 25, 26, 8, 9, 28, 29, 30, 31, 32, 33, 27, 34, 35, 36, 37, 38, 39, 4, 16, 17], [], []⟩] plTypes plOk inFuncs insOk 6 ⟨46, [(.g [(.ck (.int .i64)), (.ck (.int .i64)), (.ck (.int .i64)), (.ck (.int .i64)), (.row 3 [(.int .i64)] false), (.row 3 [(.int .i64)] false)]), (.a (.ck (.int .u64)))], (.c (.a (.ck (.int .i64))))⟩ (fun args w => Tryd.call46 args w) tk_dist_trials (by kernel_rfl)
theorem k_dist_trials_f : k_dist_trials.con.f = 46 := rfl
theorem k_dist_trials_F (l : List Sc) : k_dist_trials.F l = if l.length = 7 then tk_dist_trials.den (gam (P := Tryd.prog) [k_bits_Mul64, k_bits_Div64]) l [] else none := rfl
def tk_simulatorref02_Made : T (List Ex) :=
 (.call 74 [(.v 1), (.v 2), (.v 3), (.v 4)] 2
 (.call 75 [(.v 1), (.v 2), (.v 5), (.v 6)] 4
 (.call 75 [(.v 3), (.v 4), (.v 5), (.v 6)] 4
 (.ite (.o .ne (.v 7) (.i 0))
 (.leaf [(.i 0), (.i 0), (.b false)])
 (.ite (.o .lt (.i 4611686018427387904) (.v 8))
 (.leaf [(.i 0), (.i 0), (.b false)])
 (.ite (.o .ne (.v 11) (.i 0))
 (.leaf [(.i 0), (.i 0), (.b false)])
 (.ite (.o .lt (.i 1000000000000000) (.v 12))
 (.leaf [(.i 0), (.i 0), (.b false)])
 (.ite (.v 0)
 (.leaf [(.o (.sub .i64) (.i 0) (.u (.conv .i64) (.v 8))), (.u (.conv .i64) (.v 12)), (.b true)])
 (.leaf [(.u (.conv .i64) (.v 8)), (.u (.conv .i64) (.v 12)), (.b true)])))))))))
noncomputable def k_simulatorref02_Made : Known Tryd.prog := known mixedOk [k_simulatorref02_common, k_simulatorref02_Divide] (by decide) [] plTypes plOk inFuncs insOk 6 ⟨58, [(.g [(.ck .bool), (.ck (.int .u64)), (.ck (.int .u64))]), (.g [(.ck (.int .u64)), (.ck (.int .u64))])], (.t [(.g [(.ck (.int .i64)), (.ck (.int .i64))]), (.a (.ck .bool))])⟩ (fun args w => Tryd.call58 args w) tk_simulatorref02_Made (by kernel_rfl)
theorem k_simulatorref02_Made_f : k_simulatorref02_Made.con.f = 58 := rfl
theorem k_simulatorref02_Made_F (l : List Sc) : k_simulatorref02_Made.F l = if l.length = 5 then tk_simulatorref02_Made.den (gam (P := Tryd.prog) [k_simulatorref02_common, k_simulatorref02_Divide]) l [] else none := rfl
def tk_dist_At : T (List Ex) :=
 (.call 14 [(.v 0), (.v 1), (.v 2), (.v 3), (.v 4), (.v 5)] 1
 (.ite (.o .ne (.v 7) (.i 0))
 (.leaf [(.i 0), (.b false)])
 (.ite (.o .eq (.v 0) (.i 1))
 (.leaf [(.v 1), (.b true)])
 (.ite (.o .eq (.v 0) (.i 2))
 (.call 44 [(.v 6), (.o (.add .i64) (.o (.sub .i64) (.v 2) (.v 1)) (.i 1))] 1
 (.leaf [(.o (.add .i64) (.v 1) (.v 8)), (.b true)]))
 (.ite (.o .eq (.v 0) (.i 3))
 (.call 45 [(.v 0), (.v 1), (.v 2), (.v 3), (.v 4), (.v 5), (.v 6)] 1
 (.leaf [(.v 8), (.b true)]))
 (.ite (.o .eq (.v 0) (.i 5))
 (.call 46 [(.v 0), (.v 1), (.v 2), (.v 3), (.v 4), (.v 5), (.v 6)] 1
 (.leaf [(.v 8), (.b true)]))
 (.leaf [(.i 0), (.b false)])))))))
noncomputable def k_dist_At : Known Tryd.prog := known mixedOk [k_dist_Check, k_dist_upper, k_dist_choose, k_dist_trials] (by decide) [] plTypes plOk inFuncs insOk 6 ⟨20, [(.g [(.ck (.int .i64)), (.ck (.int .i64)), (.ck (.int .i64)), (.ck (.int .i64)), (.row 3 [(.int .i64)] false), (.row 3 [(.int .i64)] false)]), (.a (.ck (.int .u64)))], (.t [(.a (.ck (.int .i64))), (.a (.ck .bool))])⟩ (fun args w => Tryd.call20 args w) tk_dist_At (by kernel_rfl)
theorem k_dist_At_f : k_dist_At.con.f = 20 := rfl
theorem k_dist_At_F (l : List Sc) : k_dist_At.F l = if l.length = 7 then tk_dist_At.den (gam (P := Tryd.prog) [k_dist_Check, k_dist_upper, k_dist_choose, k_dist_trials]) l [] else none := rfl
def tk_dist_Draw : T (List Ex) :=
 (.call 14 [(.v 0), (.v 1), (.v 2), (.v 3), (.v 4), (.v 5)] 1
 (.ite (.o .ne (.v 9) (.i 0))
 (.leaf [(.i 0), (.i 0), (.i 0), (.b false), (.v 9)])
 (.call 51 [(.v 6), (.v 7), (.v 8)] 1
 (.ite (.o .ne (.v 10) (.i 0))
 (.leaf [(.i 0), (.i 0), (.i 0), (.b false), (.v 10)])
 (.ite (.o .eq (.v 0) (.i 4))
 (.ite (.o .lt (.o (.sub .i64) (.i 1000000000000) (.v 3)) (.v 7))
 (.leaf [(.i 0), (.i 0), (.i 0), (.b false), (.i 2)])
 (.loop [(.i 0), (.i 0), (.v 6), (.v 7), (.v 8)]
 (.ite (.o .lt (.v 12) (.v 3))
 (.call 52 [(.v 13), (.v 14), (.v 15)] 4
 (.call 20 [(.i 2), (.v 1), (.v 2), (.i 0), .nil, .nil, (.v 16)] 2
 (.next 0 [(.o (.add .i64) (.v 11) (.v 20)), (.o (.add .i64) (.v 12) (.i 1)), (.v 17), (.v 18), (.v 19)])))
 (.leaf [(.v 11), (.v 13), (.v 14), (.v 15), (.i 0)]))))
 (.ite (.o .lt (.i 999999999999) (.v 7))
 (.leaf [(.i 0), (.i 0), (.i 0), (.b false), (.i 2)])
 (.loop [(.i 0), (.i 0), (.v 6), (.v 7), (.v 8)]
 (.ite (.o .lt (.v 12) (.i 1))
 (.call 52 [(.v 13), (.v 14), (.v 15)] 4
 (.call 20 [(.v 0), (.v 1), (.v 2), (.v 3), (.v 4), (.v 5), (.v 16)] 2
 (.next 0 [(.o (.add .i64) (.v 11) (.v 20)), (.o (.add .i64) (.v 12) (.i 1)), (.v 17), (.v 18), (.v 19)])))
 (.leaf [(.v 11), (.v 13), (.v 14), (.v 15), (.i 0)])))))))))
noncomputable def k_dist_Draw : Known Tryd.prog := known mixedOk [k_dist_Check, k_stream_Check, k_stream_Next, k_dist_At] (by decide) [⟨2600014, [(11, 0), (45, 0)], [46, 12, 48, 49, 47, 50, 51, 53, 54, 55, 52, 56, 57, 13, 14, 58, 59, 60, 61], [(1, (0, 0)), (1, (1, 0)), (1, (2, 0))], []⟩] plTypes plOk inFuncs insOk 6 ⟨26, [(.g [(.ck (.int .i64)), (.ck (.int .i64)), (.ck (.int .i64)), (.ck (.int .i64)), (.row 3 [(.int .i64)] false), (.row 3 [(.int .i64)] false)]), (.g [(.ck (.int .u64)), (.ck (.int .i64)), (.ck .bool)])], (.t [(.a (.ck (.int .i64))), (.g [(.ck (.int .u64)), (.ck (.int .i64)), (.ck .bool)]), (.a (.ck (.int .i64)))])⟩ (fun args w => Tryd.call26 args w) tk_dist_Draw (by kernel_rfl)
theorem k_dist_Draw_f : k_dist_Draw.con.f = 26 := rfl
theorem k_dist_Draw_F (l : List Sc) : k_dist_Draw.F l = if l.length = 9 then tk_dist_Draw.den (gam (P := Tryd.prog) [k_dist_Check, k_stream_Check, k_stream_Next, k_dist_At]) l [] else none := rfl
def tk_simulatorref02_Of : T (List Ex) :=
 (.ite (.o .eq (.v 1) (.i 0))
 (.leaf [(.i 0), (.i 0), (.b false)])
 (.call 59 [(.v 0)] 1
 (.call 59 [(.v 1)] 1
 (.call 58 [(.u .not (.o .beq (.o .lt (.v 0) (.i 0)) (.o .lt (.v 1) (.i 0)))), (.i 0), (.v 2), (.i 0), (.v 3)] 3
 (.leaf [(.v 4), (.v 5), (.v 6)])))))
noncomputable def k_simulatorref02_Of : Known Tryd.prog := known mixedOk [k_simulatorref02_Size, k_simulatorref02_Made] (by decide) [] plTypes plOk inFuncs insOk 6 ⟨30, [(.a (.ck (.int .i64))), (.a (.ck (.int .i64)))], (.t [(.g [(.ck (.int .i64)), (.ck (.int .i64))]), (.a (.ck .bool))])⟩ (fun args w => Tryd.call30 args w) tk_simulatorref02_Of (by kernel_rfl)
theorem k_simulatorref02_Of_f : k_simulatorref02_Of.con.f = 30 := rfl
theorem k_simulatorref02_Of_F (l : List Sc) : k_simulatorref02_Of.F l = if l.length = 2 then tk_simulatorref02_Of.den (gam (P := Tryd.prog) [k_simulatorref02_Size, k_simulatorref02_Made]) l [] else none := rfl
def tk_dist_end : T (List Ex) :=
 (.ite (.o .eq (.v 0) (.i 4))
 (.call 14 [(.v 0), (.v 1), (.v 2), (.v 3), (.v 4), (.v 5)] 1
 (.ite (.o .eq (.v 8) (.i 0))
 (.leaf [(.o (.mul .i64) (.v 3) (.v 7))])
 (.call 20 [(.v 0), (.v 1), (.v 2), (.v 3), (.v 4), (.v 5), (.v 6)] 2
 (.leaf [(.v 9)]))))
 (.call 20 [(.v 0), (.v 1), (.v 2), (.v 3), (.v 4), (.v 5), (.v 6)] 2
 (.leaf [(.v 8)])))
noncomputable def k_dist_end : Known Tryd.prog := known mixedOk [k_dist_Check, k_dist_At] (by decide) [] plTypes plOk inFuncs insOk 6 ⟨50, [(.g [(.ck (.int .i64)), (.ck (.int .i64)), (.ck (.int .i64)), (.ck (.int .i64)), (.row 3 [(.int .i64)] false), (.row 3 [(.int .i64)] false)]), (.a (.ck (.int .u64))), (.a (.ck (.int .i64)))], (.c (.a (.ck (.int .i64))))⟩ (fun args w => Tryd.call50 args w) tk_dist_end (by kernel_rfl)
theorem k_dist_end_f : k_dist_end.con.f = 50 := rfl
theorem k_dist_end_F (l : List Sc) : k_dist_end.F l = if l.length = 8 then tk_dist_end.den (gam (P := Tryd.prog) [k_dist_Check, k_dist_At]) l [] else none := rfl
def tk_simulatorref04_Mean : T (List Ex) :=
 (.call 15 [(.v 0), (.v 1), (.v 2), (.v 3), (.v 4), (.v 5)] 1
 (.ite (.o .ne (.v 6) (.i 0))
 (.leaf [(.i 0), (.i 0), (.b false)])
 (.ite (.o .eq (.v 0) (.i 1))
 (.call 30 [(.v 1), (.i 1)] 3
 (.leaf [(.v 7), (.v 8), (.v 9)]))
 (.ite (.o .eq (.v 0) (.i 2))
 (.call 30 [(.o (.add .i64) (.v 1) (.v 2)), (.i 2)] 3
 (.leaf [(.v 7), (.v 8), (.v 9)]))
 (.ite (.o .eq (.v 0) (.i 3))
 (.loop [(.i 0), (.i 0)]
 (.ite (.o .lt (.v 8) (.u .len (.v 4)))
 (.need (.o .le (.i 0) (.v 8)) (.need (.o .lt (.v 8) (.u .len (.v 4))) (.need (.o .le (.i 0) (.v 8)) (.need (.o .lt (.v 8) (.u .len (.v 5))) (.next 0 [(.o (.add .i64) (.v 7) (.o (.mul .i64) (.o .idx (.v 4) (.v 8)) (.o .idx (.v 5) (.v 8)))), (.o (.add .i64) (.v 8) (.i 1))])))))
 (.call 31 [(.v 5)] 1
 (.call 30 [(.v 7), (.v 9)] 3
 (.leaf [(.v 10), (.v 11), (.v 12)])))))
 (.ite (.o .eq (.v 0) (.i 4))
 (.call 30 [(.o (.mul .i64) (.v 3) (.o (.add .i64) (.v 1) (.v 2))), (.i 2)] 3
 (.leaf [(.v 7), (.v 8), (.v 9)]))
 (.ite (.o .eq (.v 1) (.i 1))
 (.call 30 [(.i 1), (.i 1)] 3
 (.leaf [(.v 7), (.v 8), (.v 9)]))
 (.ite (.o .eq (.v 2) (.i 1))
 (.call 30 [(.i 1), (.i 1)] 3
 (.leaf [(.v 7), (.v 8), (.v 9)]))
 (.leaf [(.i 0), (.i 0), (.b false)])))))))))
noncomputable def k_simulatorref04_Mean : Known Tryd.prog := known mixedOk [k_simulatorref04_Check, k_simulatorref02_Of, k_simulatorref04_Sum] (by decide) [⟨1300011, [(4, 0), (5, 0)], [31, 32, 33, 34, 35, 38, 39, 40, 41, 42, 43, 44, 45, 46, 47, 48, 49, 50, 36, 37], [], []⟩] plTypes plOk inFuncs insOk 6 ⟨13, [(.g [(.ck (.int .i64)), (.ck (.int .i64)), (.ck (.int .i64)), (.ck (.int .i64)), (.row 3 [(.int .i64)] false), (.row 3 [(.int .i64)] false)])], (.t [(.g [(.ck (.int .i64)), (.ck (.int .i64))]), (.a (.ck .bool))])⟩ (fun args w => Tryd.call13 args w) tk_simulatorref04_Mean (by kernel_rfl)
theorem k_simulatorref04_Mean_f : k_simulatorref04_Mean.con.f = 13 := rfl
theorem k_simulatorref04_Mean_F (l : List Sc) : k_simulatorref04_Mean.F l = if l.length = 6 then tk_simulatorref04_Mean.den (gam (P := Tryd.prog) [k_simulatorref04_Check, k_simulatorref02_Of, k_simulatorref04_Sum]) l [] else none := rfl
def tk_dist_Least : T (List Ex) :=
 (.call 50 [(.v 0), (.v 1), (.v 2), (.v 3), (.v 4), (.v 5), (.i 0), (.v 1)] 1
 (.leaf [(.v 6)]))
noncomputable def k_dist_Least : Known Tryd.prog := known mixedOk [k_dist_end] (by decide) [] plTypes plOk inFuncs insOk 6 ⟨22, [(.g [(.ck (.int .i64)), (.ck (.int .i64)), (.ck (.int .i64)), (.ck (.int .i64)), (.row 3 [(.int .i64)] false), (.row 3 [(.int .i64)] false)])], (.c (.a (.ck (.int .i64))))⟩ (fun args w => Tryd.call22 args w) tk_dist_Least (by kernel_rfl)
theorem k_dist_Least_f : k_dist_Least.con.f = 22 := rfl
theorem k_dist_Least_F (l : List Sc) : k_dist_Least.F l = if l.length = 6 then tk_dist_Least.den (gam (P := Tryd.prog) [k_dist_end]) l [] else none := rfl
def tk_dist_Most : T (List Ex) :=
 (.call 50 [(.v 0), (.v 1), (.v 2), (.v 3), (.v 4), (.v 5), (.i 18446744073709551615), (.v 2)] 1
 (.leaf [(.v 6)]))
noncomputable def k_dist_Most : Known Tryd.prog := known mixedOk [k_dist_end] (by decide) [] plTypes plOk inFuncs insOk 6 ⟨24, [(.g [(.ck (.int .i64)), (.ck (.int .i64)), (.ck (.int .i64)), (.ck (.int .i64)), (.row 3 [(.int .i64)] false), (.row 3 [(.int .i64)] false)])], (.c (.a (.ck (.int .i64))))⟩ (fun args w => Tryd.call24 args w) tk_dist_Most (by kernel_rfl)
theorem k_dist_Most_f : k_dist_Most.con.f = 24 := rfl
theorem k_dist_Most_F (l : List Sc) : k_dist_Most.F l = if l.length = 6 then tk_dist_Most.den (gam (P := Tryd.prog) [k_dist_end]) l [] else none := rfl
def tk_simulatorlaw04_awake : T (List Ex) :=
 (.call 20 [(.i 2), (.i 1), (.i 6), (.i 0), .nil, .nil, (.i 0)] 2
 (.call 20 [(.i 2), (.i 1), (.i 6), (.i 0), .nil, .nil, (.i 9223372036854775808)] 2
 (.call 20 [(.i 2), (.i 1), (.i 6), (.i 0), .nil, .nil, (.i 18446744073709551615)] 2
 (.call 20 [(.i 3), (.i 0), (.i 0), (.i 0), (.o .cons (.i 9) (.o .cons (.i 2) .nil)), (.o .cons (.i 1) (.o .cons (.i 3) .nil)), (.i 9223372036854775808)] 2
 (.call 20 [(.i 3), (.i 0), (.i 0), (.i 0), (.o .cons (.i 9) (.o .cons (.i 2) .nil)), (.o .cons (.i 1) (.o .cons (.i 3) .nil)), (.i 18446744073709551615)] 2
 (.call 20 [(.i 5), (.i 2), (.i 5), (.i 0), .nil, .nil, (.i 0)] 2
 (.call 20 [(.i 5), (.i 2), (.i 5), (.i 0), .nil, .nil, (.i 9223372036854775809)] 2
 (.call 20 [(.i 5), (.i 2), (.i 5), (.i 0), .nil, .nil, (.i 18446744073709551615)] 2
 (.call 12 [(.i 3), (.i 0), (.i 0), (.i 0), (.o .cons (.i 9) (.o .cons (.i 2) .nil)), (.o .cons (.i 1) (.o .cons (.i 3) .nil))] 3
 (.ite (.o .eq (.v 0) (.i 1))
 (.ite (.v 1)
 (.ite (.o .eq (.v 2) (.i 4))
 (.ite (.o .eq (.v 4) (.i 6))
 (.ite (.o .eq (.v 6) (.i 2))
 (.ite (.o .eq (.v 8) (.i 9))
 (.ite (.o .eq (.v 10) (.i 1))
 (.ite (.o .eq (.v 12) (.i 2))
 (.ite (.o .eq (.v 14) (.i 5))
 (.ite (.o .and (.o .eq (.v 16) (.i 15)) (.o .and (.o .eq (.v 17) (.i 4)) (.b true)))
 (.ite (.v 18)
 (.call 18 [(.i 3), (.i 0), (.i 0), (.i 0), (.o .cons (.i 9) (.o .cons (.i 2) .nil)), (.o .cons (.i 1) (.o .cons (.i 3) .nil))] 1
 (.ite (.o .seq (.v 19) (.s [116, 97, 98, 108, 101, 32, 57, 58, 49, 32, 50, 58, 51]))
 (.call 14 [(.i 2), (.i 3), (.i 2), (.i 0), .nil, .nil] 1
 (.ite (.o .eq (.v 20) (.i 2))
 (.call 14 [(.i 1), (.i 0), (.i 1), (.i 0), .nil, .nil] 1
 (.ite (.o .eq (.v 21) (.i 1))
 (.call 22 [(.i 2), (.i 1), (.i 6), (.i 0), .nil, .nil] 1
 (.ite (.o .eq (.v 22) (.i 1))
 (.call 24 [(.i 2), (.i 1), (.i 6), (.i 0), .nil, .nil] 1
 (.ite (.o .eq (.v 23) (.i 6))
 (.call 16 [(.i 2), (.i 1), (.i 6), (.i 0), .nil, .nil, (.i 2), (.i 1), (.i 6), (.i 0), .nil, .nil] 1
 (.leaf [(.v 24)]))
 (.leaf [(.b false)])))
 (.leaf [(.b false)])))
 (.leaf [(.b false)])))
 (.leaf [(.b false)])))
 (.leaf [(.b false)])))
 (.leaf [(.b false)]))
 (.leaf [(.b false)]))
 (.leaf [(.b false)]))
 (.leaf [(.b false)]))
 (.leaf [(.b false)]))
 (.leaf [(.b false)]))
 (.leaf [(.b false)]))
 (.leaf [(.b false)]))
 (.leaf [(.b false)]))
 (.leaf [(.b false)]))
 (.leaf [(.b false)])))))))))))
noncomputable def k_simulatorlaw04_awake : Known Tryd.prog := known mixedOk [k_dist_At, k_dist_Mean, k_dist_Text, k_dist_Check, k_dist_Least, k_dist_Most, k_dist_Same] (by decide) [] plTypes plOk inFuncs insOk 6 ⟨11, [], (.c (.a (.ck .bool)))⟩ (fun args w => Tryd.call11 args w) tk_simulatorlaw04_awake (by kernel_rfl)
theorem k_simulatorlaw04_awake_f : k_simulatorlaw04_awake.con.f = 11 := rfl
theorem k_simulatorlaw04_awake_F (l : List Sc) : k_simulatorlaw04_awake.F l = if l.length = 0 then tk_simulatorlaw04_awake.den (gam (P := Tryd.prog) [k_dist_At, k_dist_Mean, k_dist_Text, k_dist_Check, k_dist_Least, k_dist_Most, k_dist_Same]) l [] else none := rfl
def tk_simulatorlaw04_DistChecks : T (List Ex) :=
 (.call 10 [(.v 0), (.v 1), (.v 2), (.v 3), (.v 4), (.v 5)] 1
 (.ite (.u .not (.v 12))
 (.call 11 [] 1
 (.leaf [(.v 13)]))
 (.call 10 [(.v 6), (.v 7), (.v 8), (.v 9), (.v 10), (.v 11)] 1
 (.ite (.u .not (.v 13))
 (.call 11 [] 1
 (.leaf [(.v 14)]))
 (.call 12 [(.v 0), (.v 1), (.v 2), (.v 3), (.v 4), (.v 5)] 3
 (.call 13 [(.v 0), (.v 1), (.v 2), (.v 3), (.v 4), (.v 5)] 3
 (.call 14 [(.v 0), (.v 1), (.v 2), (.v 3), (.v 4), (.v 5)] 1
 (.call 15 [(.v 0), (.v 1), (.v 2), (.v 3), (.v 4), (.v 5)] 1
 (.ite (.o .eq (.v 20) (.v 21))
 (.call 16 [(.v 0), (.v 1), (.v 2), (.v 3), (.v 4), (.v 5), (.v 6), (.v 7), (.v 8), (.v 9), (.v 10), (.v 11)] 1
 (.call 17 [(.v 0), (.v 1), (.v 2), (.v 3), (.v 4), (.v 5), (.v 6), (.v 7), (.v 8), (.v 9), (.v 10), (.v 11)] 1
 (.ite (.o .beq (.v 22) (.v 23))
 (.ite (.o .and (.o .eq (.v 14) (.v 17)) (.o .and (.o .eq (.v 15) (.v 18)) (.b true)))
 (.ite (.o .beq (.v 16) (.v 19))
 (.call 18 [(.v 0), (.v 1), (.v 2), (.v 3), (.v 4), (.v 5)] 1
 (.call 19 [(.v 0), (.v 1), (.v 2), (.v 3), (.v 4), (.v 5)] 1
 (.ite (.o .seq (.v 24) (.v 25))
 (.call 11 [] 1
 (.leaf [(.v 26)]))
 (.leaf [(.b false)]))))
 (.leaf [(.b false)]))
 (.leaf [(.b false)]))
 (.leaf [(.b false)]))))
 (.leaf [(.b false)]))))))))))
noncomputable def k_simulatorlaw04_DistChecks : Known Tryd.prog := known mixedOk [k_simulatorlaw04_short, k_simulatorlaw04_awake, k_dist_Mean, k_simulatorref04_Mean, k_dist_Check, k_simulatorref04_Check, k_dist_Same, k_simulatorref04_Same, k_dist_Text, k_simulatorref04_Text] (by decide) [] plTypes plOk inFuncs insOk 6 ⟨3, [(.g [(.ck (.int .i64)), (.ck (.int .i64)), (.ck (.int .i64)), (.ck (.int .i64)), (.row 3 [(.int .i64)] false), (.row 3 [(.int .i64)] false)]), (.g [(.ck (.int .i64)), (.ck (.int .i64)), (.ck (.int .i64)), (.ck (.int .i64)), (.row 3 [(.int .i64)] false), (.row 3 [(.int .i64)] false)])], (.c (.a (.ck .bool)))⟩ (fun args w => Tryd.call3 args w) tk_simulatorlaw04_DistChecks (by kernel_rfl)
theorem k_simulatorlaw04_DistChecks_f : k_simulatorlaw04_DistChecks.con.f = 3 := rfl
theorem k_simulatorlaw04_DistChecks_F (l : List Sc) : k_simulatorlaw04_DistChecks.F l = if l.length = 12 then tk_simulatorlaw04_DistChecks.den (gam (P := Tryd.prog) [k_simulatorlaw04_short, k_simulatorlaw04_awake, k_dist_Mean, k_simulatorref04_Mean, k_dist_Check, k_simulatorref04_Check, k_dist_Same, k_simulatorref04_Same, k_dist_Text, k_simulatorref04_Text]) l [] else none := rfl
def tk_simulatorlaw04_DistValues : T (List Ex) :=
 (.call 10 [(.v 0), (.v 1), (.v 2), (.v 3), (.v 4), (.v 5)] 1
 (.ite (.u .not (.v 7))
 (.call 11 [] 1
 (.leaf [(.v 8)]))
 (.call 20 [(.v 0), (.v 1), (.v 2), (.v 3), (.v 4), (.v 5), (.v 6)] 2
 (.call 21 [(.v 0), (.v 1), (.v 2), (.v 3), (.v 4), (.v 5), (.v 6)] 2
 (.ite (.o .eq (.v 8) (.v 10))
 (.ite (.o .beq (.v 9) (.v 11))
 (.call 22 [(.v 0), (.v 1), (.v 2), (.v 3), (.v 4), (.v 5)] 1
 (.call 23 [(.v 0), (.v 1), (.v 2), (.v 3), (.v 4), (.v 5)] 1
 (.ite (.o .eq (.v 12) (.v 13))
 (.call 24 [(.v 0), (.v 1), (.v 2), (.v 3), (.v 4), (.v 5)] 1
 (.call 25 [(.v 0), (.v 1), (.v 2), (.v 3), (.v 4), (.v 5)] 1
 (.ite (.o .eq (.v 14) (.v 15))
 (.call 11 [] 1
 (.leaf [(.v 16)]))
 (.leaf [(.b false)]))))
 (.leaf [(.b false)]))))
 (.leaf [(.b false)]))
 (.leaf [(.b false)]))))))
noncomputable def k_simulatorlaw04_DistValues : Known Tryd.prog := known mixedOk [k_simulatorlaw04_short, k_simulatorlaw04_awake, k_dist_At, k_simulatorref04_At, k_dist_Least, k_simulatorref04_Least, k_dist_Most, k_simulatorref04_Most] (by decide) [] plTypes plOk inFuncs insOk 6 ⟨4, [(.g [(.ck (.int .i64)), (.ck (.int .i64)), (.ck (.int .i64)), (.ck (.int .i64)), (.row 3 [(.int .i64)] false), (.row 3 [(.int .i64)] false)]), (.a (.ck (.int .u64)))], (.c (.a (.ck .bool)))⟩ (fun args w => Tryd.call4 args w) tk_simulatorlaw04_DistValues (by kernel_rfl)
theorem k_simulatorlaw04_DistValues_f : k_simulatorlaw04_DistValues.con.f = 4 := rfl
theorem k_simulatorlaw04_DistValues_F (l : List Sc) : k_simulatorlaw04_DistValues.F l = if l.length = 7 then tk_simulatorlaw04_DistValues.den (gam (P := Tryd.prog) [k_simulatorlaw04_short, k_simulatorlaw04_awake, k_dist_At, k_simulatorref04_At, k_dist_Least, k_simulatorref04_Least, k_dist_Most, k_simulatorref04_Most]) l [] else none := rfl
def tk_simulatorlaw04_DistGrows : T (List Ex) :=
 (.call 10 [(.v 0), (.v 1), (.v 2), (.v 3), (.v 4), (.v 5)] 1
 (.ite (.u .not (.v 8))
 (.call 11 [] 1
 (.leaf [(.v 9)]))
 (.call 20 [(.v 0), (.v 1), (.v 2), (.v 3), (.v 4), (.v 5), (.o .min (.v 6) (.v 7))] 2
 (.call 20 [(.v 0), (.v 1), (.v 2), (.v 3), (.v 4), (.v 5), (.o .max (.v 6) (.v 7))] 2
 (.ite (.u .not (.o .beq (.v 10) (.v 12)))
 (.leaf [(.b false)])
 (.call 14 [(.v 0), (.v 1), (.v 2), (.v 3), (.v 4), (.v 5)] 1
 (.ite (.o .eq (.v 13) (.i 0))
 (.ite (.u .not (.o .beq (.v 10) (.o .ne (.v 0) (.i 4))))
 (.leaf [(.b false)])
 (.ite (.u .not (.v 10))
 (.call 11 [] 1
 (.leaf [(.v 14)]))
 (.call 22 [(.v 0), (.v 1), (.v 2), (.v 3), (.v 4), (.v 5)] 1
 (.ite (.o .le (.v 14) (.v 9))
 (.ite (.o .le (.v 9) (.v 11))
 (.call 24 [(.v 0), (.v 1), (.v 2), (.v 3), (.v 4), (.v 5)] 1
 (.ite (.o .le (.v 11) (.v 15))
 (.call 11 [] 1
 (.leaf [(.v 16)]))
 (.leaf [(.b false)])))
 (.leaf [(.b false)]))
 (.leaf [(.b false)])))))
 (.ite (.u .not (.o .beq (.v 10) (.b false)))
 (.leaf [(.b false)])
 (.ite (.u .not (.v 10))
 (.call 11 [] 1
 (.leaf [(.v 14)]))
 (.call 22 [(.v 0), (.v 1), (.v 2), (.v 3), (.v 4), (.v 5)] 1
 (.ite (.o .le (.v 14) (.v 9))
 (.ite (.o .le (.v 9) (.v 11))
 (.call 24 [(.v 0), (.v 1), (.v 2), (.v 3), (.v 4), (.v 5)] 1
 (.ite (.o .le (.v 11) (.v 15))
 (.call 11 [] 1
 (.leaf [(.v 16)]))
 (.leaf [(.b false)])))
 (.leaf [(.b false)]))
 (.leaf [(.b false)]))))))))))))
noncomputable def k_simulatorlaw04_DistGrows : Known Tryd.prog := known mixedOk [k_simulatorlaw04_short, k_simulatorlaw04_awake, k_dist_At, k_dist_Check, k_dist_Least, k_dist_Most] (by decide) [] plTypes plOk inFuncs insOk 6 ⟨5, [(.g [(.ck (.int .i64)), (.ck (.int .i64)), (.ck (.int .i64)), (.ck (.int .i64)), (.row 3 [(.int .i64)] false), (.row 3 [(.int .i64)] false)]), (.a (.ck (.int .u64))), (.a (.ck (.int .u64)))], (.c (.a (.ck .bool)))⟩ (fun args w => Tryd.call5 args w) tk_simulatorlaw04_DistGrows (by kernel_rfl)
theorem k_simulatorlaw04_DistGrows_f : k_simulatorlaw04_DistGrows.con.f = 5 := rfl
theorem k_simulatorlaw04_DistGrows_F (l : List Sc) : k_simulatorlaw04_DistGrows.F l = if l.length = 8 then tk_simulatorlaw04_DistGrows.den (gam (P := Tryd.prog) [k_simulatorlaw04_short, k_simulatorlaw04_awake, k_dist_At, k_dist_Check, k_dist_Least, k_dist_Most]) l [] else none := rfl
def tk_simulatorlaw04_DistShares : T (List Ex) :=
 (.call 10 [(.v 0), (.v 1), (.v 2), (.v 3), (.v 4), (.v 5)] 1
 (.ite (.u .not (.v 7))
 (.call 11 [] 1
 (.leaf [(.v 8)]))
 (.call 14 [(.v 0), (.v 1), (.v 2), (.v 3), (.v 4), (.v 5)] 1
 (.ite (.o .ne (.v 8) (.i 0))
 (.call 11 [] 1
 (.leaf [(.v 9)]))
 (.ite (.o .ne (.v 0) (.i 3))
 (.ite (.o .ne (.v 0) (.i 2))
 (.call 11 [] 1
 (.leaf [(.v 9)]))
 (.ite (.o .eq (.v 0) (.i 3))
 (.need (.o .ne (.u .len (.v 4)) (.i 0)) (.need (.o .le (.i 0) (.o (.rem .i64) (.u (.conv .i64) (.v 6)) (.u .len (.v 4)))) (.need (.o .lt (.o (.rem .i64) (.u (.conv .i64) (.v 6)) (.u .len (.v 4))) (.u .len (.v 4))) (.loop [(.i 0), (.i 0), (.i 0)]
 (.ite (.o .lt (.v 11) (.u .len (.v 4)))
 (.need (.o .le (.i 0) (.v 11)) (.need (.o .lt (.v 11) (.u .len (.v 5))) (.need (.o .le (.i 0) (.v 11)) (.need (.o .lt (.v 11) (.u .len (.v 4))) (.ite (.o .eq (.o .idx (.v 4) (.v 11)) (.o .idx (.v 4) (.o (.rem .i64) (.u (.conv .i64) (.v 6)) (.u .len (.v 4)))))
 (.need (.o .le (.i 0) (.v 11)) (.need (.o .lt (.v 11) (.u .len (.v 5))) (.next 0 [(.o (.add .i64) (.v 9) (.o .idx (.v 5) (.v 11))), (.o (.add .i64) (.v 10) (.o .idx (.v 5) (.v 11))), (.o (.add .i64) (.v 11) (.i 1))])))
 (.next 0 [(.o (.add .i64) (.v 9) (.o .idx (.v 5) (.v 11))), (.v 10), (.o (.add .i64) (.v 11) (.i 1))]))))))
 (.ite (.o .eq (.v 0) (.i 2))
 (.ite (.o .lt (.i 1000) (.v 9))
 (.call 11 [] 1
 (.leaf [(.v 12)]))
 (.need (.o .ne (.u (.conv .u64) (.v 9)) (.i 0)) (.loop [(.i 0), (.i 0)]
 (.ite (.o .lt (.v 13) (.v 9))
 (.call 20 [(.v 0), (.v 1), (.v 2), (.v 3), (.v 4), (.v 5), (.o (.mul .u64) (.u (.conv .u64) (.v 13)) (.o (.add .u64) (.o (.quo .u64) (.i 18446744073709551615) (.u (.conv .u64) (.v 9))) (.i 1)))] 2
 (.ite (.u .not (.v 15))
 (.leaf [(.b false)])
 (.ite (.o .eq (.v 14) (.o .idx (.v 4) (.o (.rem .i64) (.u (.conv .i64) (.v 6)) (.u .len (.v 4)))))
 (.next 1 [(.o (.add .i64) (.v 12) (.i 1)), (.o (.add .i64) (.v 13) (.i 1))])
 (.next 1 [(.v 12), (.o (.add .i64) (.v 13) (.i 1))]))))
 (.ite (.o .eq (.v 12) (.v 10))
 (.call 11 [] 1
 (.leaf [(.v 14)]))
 (.leaf [(.b false)]))))))
 (.need (.o .ne (.u (.conv .u64) (.v 9)) (.i 0)) (.loop [(.i 0), (.i 0)]
 (.ite (.o .lt (.v 13) (.v 9))
 (.call 20 [(.v 0), (.v 1), (.v 2), (.v 3), (.v 4), (.v 5), (.o (.mul .u64) (.u (.conv .u64) (.v 13)) (.o (.add .u64) (.o (.quo .u64) (.i 18446744073709551615) (.u (.conv .u64) (.v 9))) (.i 1)))] 2
 (.ite (.u .not (.v 15))
 (.leaf [(.b false)])
 (.ite (.o .eq (.v 14) (.o .idx (.v 4) (.o (.rem .i64) (.u (.conv .i64) (.v 6)) (.u .len (.v 4)))))
 (.next 1 [(.o (.add .i64) (.v 12) (.i 1)), (.o (.add .i64) (.v 13) (.i 1))])
 (.next 1 [(.v 12), (.o (.add .i64) (.v 13) (.i 1))]))))
 (.ite (.o .eq (.v 12) (.v 10))
 (.call 11 [] 1
 (.leaf [(.v 14)]))
 (.leaf [(.b false)])))))))))))
 (.need (.o .ne (.o (.add .i64) (.o (.sub .i64) (.v 2) (.v 1)) (.i 1)) (.i 0)) (.ite (.o .eq (.v 0) (.i 2))
 (.ite (.o .lt (.i 1000) (.o (.add .i64) (.o (.sub .i64) (.v 2) (.v 1)) (.i 1)))
 (.call 11 [] 1
 (.leaf [(.v 9)]))
 (.need (.o .ne (.u (.conv .u64) (.o (.add .i64) (.o (.sub .i64) (.v 2) (.v 1)) (.i 1))) (.i 0)) (.loop [(.i 0), (.i 0)]
 (.ite (.o .lt (.v 10) (.o (.add .i64) (.o (.sub .i64) (.v 2) (.v 1)) (.i 1)))
 (.call 20 [(.v 0), (.v 1), (.v 2), (.v 3), (.v 4), (.v 5), (.o (.mul .u64) (.u (.conv .u64) (.v 10)) (.o (.add .u64) (.o (.quo .u64) (.i 18446744073709551615) (.u (.conv .u64) (.o (.add .i64) (.o (.sub .i64) (.v 2) (.v 1)) (.i 1)))) (.i 1)))] 2
 (.ite (.u .not (.v 12))
 (.leaf [(.b false)])
 (.ite (.o .eq (.v 11) (.o (.add .i64) (.v 1) (.o (.rem .i64) (.u (.conv .i64) (.v 6)) (.o (.add .i64) (.o (.sub .i64) (.v 2) (.v 1)) (.i 1)))))
 (.next 0 [(.o (.add .i64) (.v 9) (.i 1)), (.o (.add .i64) (.v 10) (.i 1))])
 (.next 0 [(.v 9), (.o (.add .i64) (.v 10) (.i 1))]))))
 (.ite (.o .eq (.v 9) (.i 1))
 (.call 11 [] 1
 (.leaf [(.v 11)]))
 (.leaf [(.b false)]))))))
 (.need (.o .ne (.u (.conv .u64) (.o (.add .i64) (.o (.sub .i64) (.v 2) (.v 1)) (.i 1))) (.i 0)) (.loop [(.i 0), (.i 0)]
 (.ite (.o .lt (.v 10) (.o (.add .i64) (.o (.sub .i64) (.v 2) (.v 1)) (.i 1)))
 (.call 20 [(.v 0), (.v 1), (.v 2), (.v 3), (.v 4), (.v 5), (.o (.mul .u64) (.u (.conv .u64) (.v 10)) (.o (.add .u64) (.o (.quo .u64) (.i 18446744073709551615) (.u (.conv .u64) (.o (.add .i64) (.o (.sub .i64) (.v 2) (.v 1)) (.i 1)))) (.i 1)))] 2
 (.ite (.u .not (.v 12))
 (.leaf [(.b false)])
 (.ite (.o .eq (.v 11) (.o (.add .i64) (.v 1) (.o (.rem .i64) (.u (.conv .i64) (.v 6)) (.o (.add .i64) (.o (.sub .i64) (.v 2) (.v 1)) (.i 1)))))
 (.next 0 [(.o (.add .i64) (.v 9) (.i 1)), (.o (.add .i64) (.v 10) (.i 1))])
 (.next 0 [(.v 9), (.o (.add .i64) (.v 10) (.i 1))]))))
 (.ite (.o .eq (.v 9) (.i 1))
 (.call 11 [] 1
 (.leaf [(.v 11)]))
 (.leaf [(.b false)])))))))))
 (.ite (.o .eq (.v 0) (.i 3))
 (.need (.o .ne (.u .len (.v 4)) (.i 0)) (.need (.o .le (.i 0) (.o (.rem .i64) (.u (.conv .i64) (.v 6)) (.u .len (.v 4)))) (.need (.o .lt (.o (.rem .i64) (.u (.conv .i64) (.v 6)) (.u .len (.v 4))) (.u .len (.v 4))) (.loop [(.i 0), (.i 0), (.i 0)]
 (.ite (.o .lt (.v 11) (.u .len (.v 4)))
 (.need (.o .le (.i 0) (.v 11)) (.need (.o .lt (.v 11) (.u .len (.v 5))) (.need (.o .le (.i 0) (.v 11)) (.need (.o .lt (.v 11) (.u .len (.v 4))) (.ite (.o .eq (.o .idx (.v 4) (.v 11)) (.o .idx (.v 4) (.o (.rem .i64) (.u (.conv .i64) (.v 6)) (.u .len (.v 4)))))
 (.need (.o .le (.i 0) (.v 11)) (.need (.o .lt (.v 11) (.u .len (.v 5))) (.next 0 [(.o (.add .i64) (.v 9) (.o .idx (.v 5) (.v 11))), (.o (.add .i64) (.v 10) (.o .idx (.v 5) (.v 11))), (.o (.add .i64) (.v 11) (.i 1))])))
 (.next 0 [(.o (.add .i64) (.v 9) (.o .idx (.v 5) (.v 11))), (.v 10), (.o (.add .i64) (.v 11) (.i 1))]))))))
 (.ite (.o .eq (.v 0) (.i 2))
 (.ite (.o .lt (.i 1000) (.v 9))
 (.call 11 [] 1
 (.leaf [(.v 12)]))
 (.need (.o .ne (.u (.conv .u64) (.v 9)) (.i 0)) (.loop [(.i 0), (.i 0)]
 (.ite (.o .lt (.v 13) (.v 9))
 (.call 20 [(.v 0), (.v 1), (.v 2), (.v 3), (.v 4), (.v 5), (.o (.mul .u64) (.u (.conv .u64) (.v 13)) (.o (.add .u64) (.o (.quo .u64) (.i 18446744073709551615) (.u (.conv .u64) (.v 9))) (.i 1)))] 2
 (.ite (.u .not (.v 15))
 (.leaf [(.b false)])
 (.ite (.o .eq (.v 14) (.o .idx (.v 4) (.o (.rem .i64) (.u (.conv .i64) (.v 6)) (.u .len (.v 4)))))
 (.next 1 [(.o (.add .i64) (.v 12) (.i 1)), (.o (.add .i64) (.v 13) (.i 1))])
 (.next 1 [(.v 12), (.o (.add .i64) (.v 13) (.i 1))]))))
 (.ite (.o .eq (.v 12) (.v 10))
 (.call 11 [] 1
 (.leaf [(.v 14)]))
 (.leaf [(.b false)]))))))
 (.need (.o .ne (.u (.conv .u64) (.v 9)) (.i 0)) (.loop [(.i 0), (.i 0)]
 (.ite (.o .lt (.v 13) (.v 9))
 (.call 20 [(.v 0), (.v 1), (.v 2), (.v 3), (.v 4), (.v 5), (.o (.mul .u64) (.u (.conv .u64) (.v 13)) (.o (.add .u64) (.o (.quo .u64) (.i 18446744073709551615) (.u (.conv .u64) (.v 9))) (.i 1)))] 2
 (.ite (.u .not (.v 15))
 (.leaf [(.b false)])
 (.ite (.o .eq (.v 14) (.o .idx (.v 4) (.o (.rem .i64) (.u (.conv .i64) (.v 6)) (.u .len (.v 4)))))
 (.next 1 [(.o (.add .i64) (.v 12) (.i 1)), (.o (.add .i64) (.v 13) (.i 1))])
 (.next 1 [(.v 12), (.o (.add .i64) (.v 13) (.i 1))]))))
 (.ite (.o .eq (.v 12) (.v 10))
 (.call 11 [] 1
 (.leaf [(.v 14)]))
 (.leaf [(.b false)])))))))))))
 (.need (.o .ne (.o (.add .i64) (.o (.sub .i64) (.v 2) (.v 1)) (.i 1)) (.i 0)) (.ite (.o .eq (.v 0) (.i 2))
 (.ite (.o .lt (.i 1000) (.o (.add .i64) (.o (.sub .i64) (.v 2) (.v 1)) (.i 1)))
 (.call 11 [] 1
 (.leaf [(.v 9)]))
 (.need (.o .ne (.u (.conv .u64) (.o (.add .i64) (.o (.sub .i64) (.v 2) (.v 1)) (.i 1))) (.i 0)) (.loop [(.i 0), (.i 0)]
 (.ite (.o .lt (.v 10) (.o (.add .i64) (.o (.sub .i64) (.v 2) (.v 1)) (.i 1)))
 (.call 20 [(.v 0), (.v 1), (.v 2), (.v 3), (.v 4), (.v 5), (.o (.mul .u64) (.u (.conv .u64) (.v 10)) (.o (.add .u64) (.o (.quo .u64) (.i 18446744073709551615) (.u (.conv .u64) (.o (.add .i64) (.o (.sub .i64) (.v 2) (.v 1)) (.i 1)))) (.i 1)))] 2
 (.ite (.u .not (.v 12))
 (.leaf [(.b false)])
 (.ite (.o .eq (.v 11) (.o (.add .i64) (.v 1) (.o (.rem .i64) (.u (.conv .i64) (.v 6)) (.o (.add .i64) (.o (.sub .i64) (.v 2) (.v 1)) (.i 1)))))
 (.next 0 [(.o (.add .i64) (.v 9) (.i 1)), (.o (.add .i64) (.v 10) (.i 1))])
 (.next 0 [(.v 9), (.o (.add .i64) (.v 10) (.i 1))]))))
 (.ite (.o .eq (.v 9) (.i 1))
 (.call 11 [] 1
 (.leaf [(.v 11)]))
 (.leaf [(.b false)]))))))
 (.need (.o .ne (.u (.conv .u64) (.o (.add .i64) (.o (.sub .i64) (.v 2) (.v 1)) (.i 1))) (.i 0)) (.loop [(.i 0), (.i 0)]
 (.ite (.o .lt (.v 10) (.o (.add .i64) (.o (.sub .i64) (.v 2) (.v 1)) (.i 1)))
 (.call 20 [(.v 0), (.v 1), (.v 2), (.v 3), (.v 4), (.v 5), (.o (.mul .u64) (.u (.conv .u64) (.v 10)) (.o (.add .u64) (.o (.quo .u64) (.i 18446744073709551615) (.u (.conv .u64) (.o (.add .i64) (.o (.sub .i64) (.v 2) (.v 1)) (.i 1)))) (.i 1)))] 2
 (.ite (.u .not (.v 12))
 (.leaf [(.b false)])
 (.ite (.o .eq (.v 11) (.o (.add .i64) (.v 1) (.o (.rem .i64) (.u (.conv .i64) (.v 6)) (.o (.add .i64) (.o (.sub .i64) (.v 2) (.v 1)) (.i 1)))))
 (.next 0 [(.o (.add .i64) (.v 9) (.i 1)), (.o (.add .i64) (.v 10) (.i 1))])
 (.next 0 [(.v 9), (.o (.add .i64) (.v 10) (.i 1))]))))
 (.ite (.o .eq (.v 9) (.i 1))
 (.call 11 [] 1
 (.leaf [(.v 11)]))
 (.leaf [(.b false)])))))))))))))
noncomputable def k_simulatorlaw04_DistShares : Known Tryd.prog := known mixedOk [k_simulatorlaw04_short, k_simulatorlaw04_awake, k_dist_Check, k_dist_At] (by decide) [⟨600019, [(10, 0), (11, 0)], [99, 100, 101, 105, 106, 107, 108, 109, 110, 104, 111, 112, 12, 13, 113, 114, 4, 115, 116, 117, 118, 119, 102, 103], [], []⟩, ⟨600007, [(5, 0), (6, 0), (8, 0)], [46, 47, 48, 49, 50, 53, 54, 55, 56, 57, 58, 59, 60, 61, 62, 63, 64, 65, 66, 67, 68, 69, 70, 71, 72, 73, 51, 52], [], []⟩] plTypes plOk inFuncs insOk 6 ⟨6, [(.g [(.ck (.int .i64)), (.ck (.int .i64)), (.ck (.int .i64)), (.ck (.int .i64)), (.row 3 [(.int .i64)] false), (.row 3 [(.int .i64)] false)]), (.a (.ck (.int .u16)))], (.c (.a (.ck .bool)))⟩ (fun args w => Tryd.call6 args w) tk_simulatorlaw04_DistShares (by kernel_rfl)
theorem k_simulatorlaw04_DistShares_f : k_simulatorlaw04_DistShares.con.f = 6 := rfl
theorem k_simulatorlaw04_DistShares_F (l : List Sc) : k_simulatorlaw04_DistShares.F l = if l.length = 7 then tk_simulatorlaw04_DistShares.den (gam (P := Tryd.prog) [k_simulatorlaw04_short, k_simulatorlaw04_awake, k_dist_Check, k_dist_At]) l [] else none := rfl
def tk_simulatorlaw04_DistTexts : T (List Ex) :=
 (.call 10 [(.v 0), (.v 1), (.v 2), (.v 3), (.v 4), (.v 5)] 1
 (.ite (.u .not (.v 12))
 (.call 11 [] 1
 (.leaf [(.v 13)]))
 (.call 10 [(.v 6), (.v 7), (.v 8), (.v 9), (.v 10), (.v 11)] 1
 (.ite (.u .not (.v 13))
 (.call 11 [] 1
 (.leaf [(.v 14)]))
 (.call 18 [(.v 0), (.v 1), (.v 2), (.v 3), (.v 4), (.v 5)] 1
 (.call 18 [(.v 6), (.v 7), (.v 8), (.v 9), (.v 10), (.v 11)] 1
 (.call 14 [(.v 0), (.v 1), (.v 2), (.v 3), (.v 4), (.v 5)] 1
 (.ite (.u .not (.o .beq (.o .seq (.v 14) (.s [])) (.o .ne (.v 16) (.i 0))))
 (.leaf [(.b false)])
 (.ite (.o .seq (.v 14) (.s []))
 (.call 11 [] 1
 (.leaf [(.v 17)]))
 (.ite (.o .seq (.v 15) (.s []))
 (.call 11 [] 1
 (.leaf [(.v 17)]))
 (.call 16 [(.v 0), (.v 1), (.v 2), (.v 3), (.v 4), (.v 5), (.v 6), (.v 7), (.v 8), (.v 9), (.v 10), (.v 11)] 1
 (.ite (.o .beq (.o .seq (.v 14) (.v 15)) (.v 17))
 (.call 11 [] 1
 (.leaf [(.v 18)]))
 (.leaf [(.b false)])))))))))))))
noncomputable def k_simulatorlaw04_DistTexts : Known Tryd.prog := known mixedOk [k_simulatorlaw04_short, k_simulatorlaw04_awake, k_dist_Text, k_dist_Check, k_dist_Same] (by decide) [] plTypes plOk inFuncs insOk 6 ⟨7, [(.g [(.ck (.int .i64)), (.ck (.int .i64)), (.ck (.int .i64)), (.ck (.int .i64)), (.row 3 [(.int .i64)] false), (.row 3 [(.int .i64)] false)]), (.g [(.ck (.int .i64)), (.ck (.int .i64)), (.ck (.int .i64)), (.ck (.int .i64)), (.row 3 [(.int .i64)] false), (.row 3 [(.int .i64)] false)])], (.c (.a (.ck .bool)))⟩ (fun args w => Tryd.call7 args w) tk_simulatorlaw04_DistTexts (by kernel_rfl)
theorem k_simulatorlaw04_DistTexts_f : k_simulatorlaw04_DistTexts.con.f = 7 := rfl
theorem k_simulatorlaw04_DistTexts_F (l : List Sc) : k_simulatorlaw04_DistTexts.F l = if l.length = 12 then tk_simulatorlaw04_DistTexts.den (gam (P := Tryd.prog) [k_simulatorlaw04_short, k_simulatorlaw04_awake, k_dist_Text, k_dist_Check, k_dist_Same]) l [] else none := rfl
def tk_simulatorlaw04_DistDraws : T (List Ex) :=
 (.call 10 [(.v 0), (.v 1), (.v 2), (.v 3), (.v 4), (.v 5)] 1
 (.ite (.u .not (.v 9))
 (.call 11 [] 1
 (.leaf [(.v 10)]))
 (.call 26 [(.v 0), (.v 1), (.v 2), (.v 3), (.v 4), (.v 5), (.v 6), (.v 7), (.v 8)] 5
 (.call 27 [(.v 0), (.v 1), (.v 2), (.v 3), (.v 4), (.v 5), (.v 6), (.v 7), (.v 8)] 5
 (.ite (.o .ne (.v 10) (.v 15))
 (.leaf [(.b false)])
 (.ite (.u .not (.o .and (.o .eq (.v 11) (.v 16)) (.o .and (.o .eq (.v 12) (.v 17)) (.o .and (.o .beq (.v 13) (.v 18)) (.b true)))))
 (.leaf [(.b false)])
 (.ite (.o .ne (.v 14) (.v 19))
 (.leaf [(.b false)])
 (.ite (.o .ne (.v 14) (.i 0))
 (.call 11 [] 1
 (.leaf [(.v 20)]))
 (.call 22 [(.v 0), (.v 1), (.v 2), (.v 3), (.v 4), (.v 5)] 1
 (.ite (.o .le (.v 20) (.v 10))
 (.call 24 [(.v 0), (.v 1), (.v 2), (.v 3), (.v 4), (.v 5)] 1
 (.ite (.o .le (.v 10) (.v 21))
 (.call 11 [] 1
 (.leaf [(.v 22)]))
 (.leaf [(.b false)])))
 (.leaf [(.b false)])))))))))))
noncomputable def k_simulatorlaw04_DistDraws : Known Tryd.prog := known mixedOk [k_simulatorlaw04_short, k_simulatorlaw04_awake, k_dist_Draw, k_simulatorref04_Draw, k_dist_Least, k_dist_Most] (by decide) [] plTypes plOk inFuncs insOk 6 ⟨8, [(.g [(.ck (.int .i64)), (.ck (.int .i64)), (.ck (.int .i64)), (.ck (.int .i64)), (.row 3 [(.int .i64)] false), (.row 3 [(.int .i64)] false)]), (.g [(.ck (.int .u64)), (.ck (.int .i64)), (.ck .bool)])], (.c (.a (.ck .bool)))⟩ (fun args w => Tryd.call8 args w) tk_simulatorlaw04_DistDraws (by kernel_rfl)
theorem k_simulatorlaw04_DistDraws_f : k_simulatorlaw04_DistDraws.con.f = 8 := rfl
theorem k_simulatorlaw04_DistDraws_F (l : List Sc) : k_simulatorlaw04_DistDraws.F l = if l.length = 9 then tk_simulatorlaw04_DistDraws.den (gam (P := Tryd.prog) [k_simulatorlaw04_short, k_simulatorlaw04_awake, k_dist_Draw, k_simulatorref04_Draw, k_dist_Least, k_dist_Most]) l [] else none := rfl
def tk_simulatorlaw04_DistSteps : T (List Ex) :=
 (.call 10 [(.v 0), (.v 1), (.v 2), (.v 3), (.v 4), (.v 5)] 1
 (.ite (.u .not (.v 9))
 (.call 11 [] 1
 (.leaf [(.v 10)]))
 (.call 26 [(.v 0), (.v 1), (.v 2), (.v 3), (.v 4), (.v 5), (.v 6), (.v 7), (.v 8)] 5
 (.ite (.o .ne (.v 14) (.i 0))
 (.ite (.o .eq (.v 10) (.i 0))
 (.ite (.o .and (.o .eq (.v 11) (.i 0)) (.o .and (.o .eq (.v 12) (.i 0)) (.o .and (.o .beq (.v 13) (.b false)) (.b true))))
 (.call 11 [] 1
 (.leaf [(.v 15)]))
 (.leaf [(.b false)]))
 (.leaf [(.b false)]))
 (.ite (.o .eq (.v 0) (.i 4))
 (.call 26 [(.v 0), (.v 1), (.v 2), (.v 3), (.v 4), (.v 5), (.v 6), (.v 7), (.v 8)] 5
 (.ite (.o .eq (.v 19) (.i 0))
 (.ite (.o .eq (.v 15) (.v 10))
 (.ite (.o .and (.o .eq (.v 16) (.v 11)) (.o .and (.o .eq (.v 17) (.v 12)) (.o .and (.o .beq (.v 18) (.v 13)) (.b true))))
 (.ite (.o .eq (.v 11) (.v 6))
 (.ite (.o .beq (.v 13) (.v 8))
 (.ite (.o .eq (.o (.sub .i64) (.v 12) (.v 7)) (.v 3))
 (.call 11 [] 1
 (.leaf [(.v 20)]))
 (.leaf [(.b false)]))
 (.leaf [(.b false)]))
 (.leaf [(.b false)]))
 (.leaf [(.b false)]))
 (.leaf [(.b false)]))
 (.leaf [(.b false)])))
 (.call 26 [(.v 0), (.v 1), (.v 2), (.v 3), (.v 4), (.v 5), (.v 6), (.v 7), (.v 8)] 5
 (.ite (.o .eq (.v 19) (.i 0))
 (.ite (.o .eq (.v 15) (.v 10))
 (.ite (.o .and (.o .eq (.v 16) (.v 11)) (.o .and (.o .eq (.v 17) (.v 12)) (.o .and (.o .beq (.v 18) (.v 13)) (.b true))))
 (.ite (.o .eq (.v 11) (.v 6))
 (.ite (.o .beq (.v 13) (.v 8))
 (.ite (.o .eq (.o (.sub .i64) (.v 12) (.v 7)) (.i 1))
 (.call 11 [] 1
 (.leaf [(.v 20)]))
 (.leaf [(.b false)]))
 (.leaf [(.b false)]))
 (.leaf [(.b false)]))
 (.leaf [(.b false)]))
 (.leaf [(.b false)]))
 (.leaf [(.b false)]))))))))
noncomputable def k_simulatorlaw04_DistSteps : Known Tryd.prog := known mixedOk [k_simulatorlaw04_short, k_simulatorlaw04_awake, k_dist_Draw] (by decide) [] plTypes plOk inFuncs insOk 6 ⟨9, [(.g [(.ck (.int .i64)), (.ck (.int .i64)), (.ck (.int .i64)), (.ck (.int .i64)), (.row 3 [(.int .i64)] false), (.row 3 [(.int .i64)] false)]), (.g [(.ck (.int .u64)), (.ck (.int .i64)), (.ck .bool)])], (.c (.a (.ck .bool)))⟩ (fun args w => Tryd.call9 args w) tk_simulatorlaw04_DistSteps (by kernel_rfl)
theorem k_simulatorlaw04_DistSteps_f : k_simulatorlaw04_DistSteps.con.f = 9 := rfl
theorem k_simulatorlaw04_DistSteps_F (l : List Sc) : k_simulatorlaw04_DistSteps.F l = if l.length = 9 then tk_simulatorlaw04_DistSteps.den (gam (P := Tryd.prog) [k_simulatorlaw04_short, k_simulatorlaw04_awake, k_dist_Draw]) l [] else none := rfl
end Go.Proofs.YtmaocifplceopaaDoor
