/-
  What the functions of this seat reckon: their trees, checked by the kernel. Printed by a program of mine.
-/
import Derived.Test.YtpmplppkjedpiaaProg
import Derived.KernelRfl
import Derived.Test.YtpmplppkjedpiaaSymX
import Derived.Test.YtpmplppkjedpiaaExt
import Derived.Test.YtpmplppkjedpiaaGl0
namespace Go.Proofs.Ytpmplppkjedpiaa
open Go.RowKit
def plTypes : List Nat := [7, 8, 25, 26, 27, 28, 29, 30, 32, 33, 111, 112, 113, 114]
theorem plOk : PlainTy Try.prog plTypes := by
  intro t ht
  have := hasN_mem.1 ht
  simp only [plTypes, List.mem_cons, List.not_mem_nil, or_false] at this
  rcases this with rfl | rfl | rfl | rfl | rfl | rfl | rfl | rfl | rfl | rfl | rfl | rfl | rfl | rfl
  · exact ⟨Try.stoodInHeld7, Try.eqGuardType7⟩
  · exact ⟨Try.stoodInHeld8, Try.eqGuardType8⟩
  · exact ⟨Try.stoodInHeld25, Try.eqGuardType25⟩
  · exact ⟨Try.stoodInHeld26, Try.eqGuardType26⟩
  · exact ⟨Try.stoodInHeld27, Try.eqGuardType27⟩
  · exact ⟨Try.stoodInHeld28, Try.eqGuardType28⟩
  · exact ⟨Try.stoodInHeld29, Try.eqGuardType29⟩
  · exact ⟨Try.stoodInHeld30, Try.eqGuardType30⟩
  · exact ⟨Try.stoodInHeld32, Try.eqGuardType32⟩
  · exact ⟨Try.stoodInHeld33, Try.eqGuardType33⟩
  · exact ⟨Try.stoodInHeld111, Try.eqGuardType111⟩
  · exact ⟨Try.stoodInHeld112, Try.eqGuardType112⟩
  · exact ⟨Try.stoodInHeld113, Try.eqGuardType113⟩
  · exact ⟨Try.stoodInHeld114, Try.eqGuardType114⟩
def inFuncs : List Nat := [59, 60, 65, 66, 71, 72, 75]
theorem insOk : ∀ f, hasN inFuncs f = true → ∀ args w, (callFunc f args).run Try.prog w = .ok (.enter f args) w := by
  intro f hf
  have := hasN_mem.1 hf
  simp only [inFuncs, List.mem_cons, List.not_mem_nil, or_false] at this
  rcases this with rfl | rfl | rfl | rfl | rfl | rfl | rfl
  · exact fun args w => Try.call59 args w
  · exact fun args w => Try.call60 args w
  · exact fun args w => Try.call65 args w
  · exact fun args w => Try.call66 args w
  · exact fun args w => Try.call71 args w
  · exact fun args w => Try.call72 args w
  · exact fun args w => Try.call75 args w
theorem mixedOk : Try.prog.follows .mixedOrders = true := by kernel_rfl
def tk_simulatorlaw25_small : T (List Ex) :=
 (.ite (.o .le (.u .len (.v 9)) (.i 100))
 (.ite (.o .le (.u .len (.v 10)) (.i 100))
 (.ite (.o .le (.u .len (.v 15)) (.i 100))
 (.ite (.o .le (.u .len (.v 16)) (.i 100))
 (.leaf [(.o .le (.u .slen (.v 4)) (.i 100))])
 (.leaf [(.b false)]))
 (.leaf [(.b false)]))
 (.leaf [(.b false)]))
 (.leaf [(.b false)]))
noncomputable def k_simulatorlaw25_small : Known Try.prog := known mixedOk [] (by decide) [] plTypes plOk inFuncs insOk 6 ⟨9, [(.g [(.ck .str), (.ck (.int .i64)), (.row 112 [(.int .i64), (.int .i64)] true), (.ck (.int .i64)), (.ck .str), (.ck (.int .i64)), (.ck (.int .i64)), (.ck (.int .i64)), (.ck (.int .i64)), (.row 3 [(.int .i64)] false), (.row 3 [(.int .i64)] false), (.ck (.int .i64)), (.ck (.int .i64)), (.ck (.int .i64)), (.ck (.int .i64)), (.row 3 [(.int .i64)] false), (.row 3 [(.int .i64)] false)])], (.c (.a (.ck .bool)))⟩ (fun args w => Try.call9 args w) tk_simulatorlaw25_small (by kernel_rfl)
theorem k_simulatorlaw25_small_f : k_simulatorlaw25_small.con.f = 9 := rfl
theorem k_simulatorlaw25_small_F (l : List Sc) : k_simulatorlaw25_small.F l = if l.length = 17 then tk_simulatorlaw25_small.den (gam (P := Try.prog) []) l [] else none := rfl
def tk_simulatorref25_SameInts : T (List Ex) :=
 (.ite (.o .ne (.u .len (.v 0)) (.u .len (.v 1)))
 (.leaf [(.b false)])
 (.loop [(.i 0)]
 (.ite (.o .lt (.v 2) (.u .len (.v 0)))
 (.need (.o .le (.i 0) (.v 2)) (.need (.o .lt (.v 2) (.u .len (.v 0))) (.need (.o .le (.i 0) (.v 2)) (.need (.o .lt (.v 2) (.u .len (.v 1))) (.ite (.o .ne (.o .idx (.v 0) (.v 2)) (.o .idx (.v 1) (.v 2)))
 (.leaf [(.b false)])
 (.next 0 [(.o (.add .i64) (.v 2) (.i 1))]))))))
 (.leaf [(.b true)]))))
noncomputable def k_simulatorref25_SameInts : Known Try.prog := known mixedOk [] (by decide) [⟨1700004, [(5, 0)], [11, 12, 13, 14, 17, 18, 19, 20, 21, 22, 23, 24, 25, 4, 15, 16], [], []⟩] plTypes plOk inFuncs insOk 6 ⟨17, [(.a (.row 3 [(.int .i64)] false)), (.a (.row 3 [(.int .i64)] false))], (.c (.a (.ck .bool)))⟩ (fun args w => Try.call17 args w) tk_simulatorref25_SameInts (by kernel_rfl)
theorem k_simulatorref25_SameInts_f : k_simulatorref25_SameInts.con.f = 17 := rfl
theorem k_simulatorref25_SameInts_F (l : List Sc) : k_simulatorref25_SameInts.F l = if l.length = 2 then tk_simulatorref25_SameInts.den (gam (P := Try.prog) []) l [] else none := rfl
def tk_simulatorref25_Uptime : T (List Ex) :=
 (.ite (.o .lt (.v 1) (.i 0))
 (.leaf [(.i 0)])
 (.ite (.o .lt (.v 2) (.v 1))
 (.leaf [(.i 0)])
 (.ite (.o .lt (.i 1000000000) (.v 2))
 (.leaf [(.i 0)])
 (.loop [(.i 0)]
 (.ite (.o .lt (.v 3) (.u .len (.v 0)))
 (.need (.o .le (.i 0) (.v 3)) (.need (.o .lt (.v 3) (.u .len (.v 0))) (.ite (.o .lt (.o .idx (.v 0) (.v 3)) (.i 0))
 (.leaf [(.i 0)])
 (.ite (.o .lt (.i 0) (.v 3))
 (.need (.o .le (.i 0) (.o (.sub .i64) (.v 3) (.i 1))) (.need (.o .lt (.o (.sub .i64) (.v 3) (.i 1)) (.u .len (.v 0))) (.need (.o .le (.i 0) (.v 3)) (.need (.o .lt (.v 3) (.u .len (.v 0))) (.ite (.o .le (.o .idx (.v 0) (.v 3)) (.o .idx (.v 0) (.o (.sub .i64) (.v 3) (.i 1))))
 (.leaf [(.i 0)])
 (.next 0 [(.o (.add .i64) (.v 3) (.i 1))]))))))
 (.next 0 [(.o (.add .i64) (.v 3) (.i 1))])))))
 (.loop [(.i 0), (.i 0), (.i 0)]
 (.ite (.o .le (.v 6) (.u .len (.v 0)))
 (.ite (.o .lt (.v 6) (.u .len (.v 0)))
 (.need (.o .le (.i 0) (.v 6)) (.need (.o .lt (.v 6) (.u .len (.v 0))) (.ite (.o .eq (.o (.rem .i64) (.v 6) (.i 2)) (.i 0))
 (.next 1 [(.o (.add .i64) (.v 4) (.o .max (.i 0) (.o (.sub .i64) (.o .min (.o .idx (.v 0) (.v 6)) (.v 2)) (.o .max (.v 5) (.v 1))))), (.o .idx (.v 0) (.v 6)), (.o (.add .i64) (.v 6) (.i 1))])
 (.next 1 [(.v 4), (.o .idx (.v 0) (.v 6)), (.o (.add .i64) (.v 6) (.i 1))]))))
 (.ite (.o .eq (.o (.rem .i64) (.v 6) (.i 2)) (.i 0))
 (.next 1 [(.o (.add .i64) (.v 4) (.o .max (.i 0) (.o (.sub .i64) (.o .min (.v 2) (.v 2)) (.o .max (.v 5) (.v 1))))), (.v 2), (.o (.add .i64) (.v 6) (.i 1))])
 (.next 1 [(.v 4), (.v 2), (.o (.add .i64) (.v 6) (.i 1))])))
 (.leaf [(.v 4)]))))))))
noncomputable def k_simulatorref25_Uptime : Known Try.prog := known mixedOk [] (by decide) [⟨1900011, [(8, 0), (9, 0), (10, 0)], [50, 51, 52, 53, 56, 11, 57, 58, 59, 60, 61, 62, 63, 64, 65, 66, 67, 68, 69, 70, 71, 72, 73, 74, 75, 76, 77, 78, 54, 55], [], []⟩, ⟨1900004, [(7, 0)], [23, 24, 25, 26, 29, 30, 31, 32, 33, 34, 35, 36, 37, 38, 39, 40, 41, 42, 43, 44, 45, 46, 47, 48, 49, 6, 27, 28], [], []⟩] plTypes plOk inFuncs insOk 6 ⟨19, [(.a (.row 3 [(.int .i64)] false)), (.a (.ck (.int .i64))), (.a (.ck (.int .i64)))], (.c (.a (.ck (.int .i64))))⟩ (fun args w => Try.call19 args w) tk_simulatorref25_Uptime (by kernel_rfl)
theorem k_simulatorref25_Uptime_f : k_simulatorref25_Uptime.con.f = 19 := rfl
theorem k_simulatorref25_Uptime_F (l : List Sc) : k_simulatorref25_Uptime.F l = if l.length = 3 then tk_simulatorref25_Uptime.den (gam (P := Try.prog) []) l [] else none := rfl
def tk_simulatorlaw25_decl : T (List Ex) :=
 (.leaf [(.s []), (.i 0), .nil, (.i 0), (.s [115]), (.i 1), (.v 0), (.i 0), (.i 0), .nil, .nil, (.i 1), (.v 1), (.i 0), (.i 0), .nil, .nil])
noncomputable def k_simulatorlaw25_decl : Known Try.prog := known mixedOk [] (by decide) [] plTypes plOk inFuncs insOk 6 ⟨20, [(.a (.ck (.int .i64))), (.a (.ck (.int .i64)))], (.c (.g [(.ck .str), (.ck (.int .i64)), (.row 112 [(.int .i64), (.int .i64)] true), (.ck (.int .i64)), (.ck .str), (.ck (.int .i64)), (.ck (.int .i64)), (.ck (.int .i64)), (.ck (.int .i64)), (.row 3 [(.int .i64)] false), (.row 3 [(.int .i64)] false), (.ck (.int .i64)), (.ck (.int .i64)), (.ck (.int .i64)), (.ck (.int .i64)), (.row 3 [(.int .i64)] false), (.row 3 [(.int .i64)] false)]))⟩ (fun args w => Try.call20 args w) tk_simulatorlaw25_decl (by kernel_rfl)
theorem k_simulatorlaw25_decl_f : k_simulatorlaw25_decl.con.f = 20 := rfl
theorem k_simulatorlaw25_decl_F (l : List Sc) : k_simulatorlaw25_decl.F l = if l.length = 2 then tk_simulatorlaw25_decl.den (gam (P := Try.prog) []) l [] else none := rfl
def tk_simulatorref25_zero : T (List Ex) :=
 (.ite (.o .eq (.v 0) (.i 0))
 (.ite (.o .eq (.v 1) (.i 0))
 (.ite (.o .eq (.v 2) (.i 0))
 (.ite (.o .eq (.v 3) (.i 0))
 (.ite (.o .eq (.u .len (.v 4)) (.i 0))
 (.leaf [(.o .eq (.u .len (.v 5)) (.i 0))])
 (.leaf [(.b false)]))
 (.leaf [(.b false)]))
 (.leaf [(.b false)]))
 (.leaf [(.b false)]))
 (.leaf [(.b false)]))
noncomputable def k_simulatorref25_zero : Known Try.prog := known mixedOk [] (by decide) [] plTypes plOk inFuncs insOk 6 ⟨28, [(.g [(.ck (.int .i64)), (.ck (.int .i64)), (.ck (.int .i64)), (.ck (.int .i64)), (.row 3 [(.int .i64)] false), (.row 3 [(.int .i64)] false)])], (.c (.a (.ck .bool)))⟩ (fun args w => Try.call28 args w) tk_simulatorref25_zero (by kernel_rfl)
theorem k_simulatorref25_zero_f : k_simulatorref25_zero.con.f = 28 := rfl
theorem k_simulatorref25_zero_F (l : List Sc) : k_simulatorref25_zero.F l = if l.length = 6 then tk_simulatorref25_zero.den (gam (P := Try.prog) []) l [] else none := rfl
def tk_fault_shared : T (List Ex) :=
 (.leaf [(.o .max (.i 0) (.o (.sub .i64) (.o .min (.v 1) (.v 3)) (.o .max (.v 0) (.v 2))))])
noncomputable def k_fault_shared : Known Try.prog := known mixedOk [] (by decide) [] plTypes plOk inFuncs insOk 6 ⟨31, [(.a (.ck (.int .i64))), (.a (.ck (.int .i64))), (.a (.ck (.int .i64))), (.a (.ck (.int .i64)))], (.c (.a (.ck (.int .i64))))⟩ (fun args w => Try.call31 args w) tk_fault_shared (by kernel_rfl)
theorem k_fault_shared_f : k_fault_shared.con.f = 31 := rfl
theorem k_fault_shared_F (l : List Sc) : k_fault_shared.F l = if l.length = 4 then tk_fault_shared.den (gam (P := Try.prog) []) l [] else none := rfl
def tk_stream_Check : T (List Ex) :=
 (.ite (.o .lt (.v 1) (.i 0))
 (.leaf [(.i 2)])
 (.ite (.o .lt (.i 1000000000000) (.v 1))
 (.leaf [(.i 2)])
 (.leaf [(.i 0)])))
noncomputable def k_stream_Check : Known Try.prog := known mixedOk [] (by decide) [] plTypes plOk inFuncs insOk 6 ⟨32, [(.g [(.ck (.int .u64)), (.ck (.int .i64)), (.ck .bool)])], (.c (.a (.ck (.int .i64))))⟩ (fun args w => Try.call32 args w) tk_stream_Check (by kernel_rfl)
theorem k_stream_Check_f : k_stream_Check.con.f = 32 := rfl
theorem k_stream_Check_F (l : List Sc) : k_stream_Check.F l = if l.length = 3 then tk_stream_Check.den (gam (P := Try.prog) []) l [] else none := rfl
def tk_simulatorref03_Check : T (List Ex) :=
 (.ite (.o .lt (.v 1) (.i 0))
 (.leaf [(.i 2)])
 (.ite (.o .lt (.i 1000000000000) (.v 1))
 (.leaf [(.i 2)])
 (.leaf [(.i 0)])))
noncomputable def k_simulatorref03_Check : Known Try.prog := known mixedOk [] (by decide) [] plTypes plOk inFuncs insOk 6 ⟨35, [(.g [(.ck (.int .u64)), (.ck (.int .i64)), (.ck .bool)])], (.c (.a (.ck (.int .i64))))⟩ (fun args w => Try.call35 args w) tk_simulatorref03_Check (by kernel_rfl)
theorem k_simulatorref03_Check_f : k_simulatorref03_Check.con.f = 35 := rfl
theorem k_simulatorref03_Check_F (l : List Sc) : k_simulatorref03_Check.F l = if l.length = 3 then tk_simulatorref03_Check.den (gam (P := Try.prog) []) l [] else none := rfl
def tk_slices_Equal___int_int_ : T (List Ex) :=
 (.ite (.o .ne (.u .len (.v 0)) (.u .len (.v 1)))
 (.leaf [(.b false)])
 (.loop [(.i 0)]
 (.ite (.o .lt (.v 2) (.u .len (.v 0)))
 (.need (.o .le (.i 0) (.v 2)) (.need (.o .lt (.v 2) (.u .len (.v 0))) (.need (.o .le (.i 0) (.v 2)) (.need (.o .lt (.v 2) (.u .len (.v 1))) (.ite (.o .ne (.o .idx (.v 0) (.v 2)) (.o .idx (.v 1) (.v 2)))
 (.leaf [(.b false)])
 (.next 0 [(.o (.add .i64) (.v 2) (.i 1))]))))))
 (.leaf [(.b true)]))))
noncomputable def k_slices_Equal___int_int_ : Known Try.prog := known mixedOk [] (by decide) [⟨3900004, [(13, 0)], [14, 15, 5, 16, 17, 18, 19, 20, 21, 22, 23, 24, 4, 25], [], []⟩] plTypes plOk inFuncs insOk 6 ⟨39, [(.a (.row 3 [(.int .i64)] false)), (.a (.row 3 [(.int .i64)] false))], (.c (.a (.ck .bool)))⟩ (fun args w => Try.call39 args w) tk_slices_Equal___int_int_ (by kernel_rfl)
theorem k_slices_Equal___int_int__f : k_slices_Equal___int_int_.con.f = 39 := rfl
theorem k_slices_Equal___int_int__F (l : List Sc) : k_slices_Equal___int_int_.F l = if l.length = 2 then tk_slices_Equal___int_int_.den (gam (P := Try.prog) []) l [] else none := rfl
def tk_names_letter : T (List Ex) :=
 (.ite (.o .le (.i 97) (.v 0))
 (.leaf [(.o .le (.v 0) (.i 122))])
 (.leaf [(.b false)]))
noncomputable def k_names_letter : Known Try.prog := known mixedOk [] (by decide) [] plTypes plOk inFuncs insOk 6 ⟨40, [(.a (.ck (.int .u8)))], (.c (.a (.ck .bool)))⟩ (fun args w => Try.call40 args w) tk_names_letter (by kernel_rfl)
theorem k_names_letter_f : k_names_letter.con.f = 40 := rfl
theorem k_names_letter_F (l : List Sc) : k_names_letter.F l = if l.length = 1 then tk_names_letter.den (gam (P := Try.prog) []) l [] else none := rfl
def tk_names_Keyword : T (List Ex) :=
 (.ite (.o .seq (.v 0) (.s [97, 100, 100]))
 (.ite (.o .seq (.v 0) (.s [97, 100, 100]))
 (.leaf [(.b true)])
 (.leaf [(.b false)]))
 (.ite (.o .seq (.v 0) (.s [97, 102, 116, 101, 114]))
 (.ite (.o .seq (.v 0) (.s [97, 102, 116, 101, 114]))
 (.leaf [(.b true)])
 (.leaf [(.b false)]))
 (.ite (.o .seq (.v 0) (.s [97, 110, 100]))
 (.ite (.o .seq (.v 0) (.s [97, 110, 100]))
 (.leaf [(.b true)])
 (.leaf [(.b false)]))
 (.ite (.o .seq (.v 0) (.s [97, 116]))
 (.ite (.o .seq (.v 0) (.s [97, 116]))
 (.leaf [(.b true)])
 (.leaf [(.b false)]))
 (.ite (.o .seq (.v 0) (.s [98, 101, 108, 116]))
 (.ite (.o .seq (.v 0) (.s [98, 101, 108, 116]))
 (.leaf [(.b true)])
 (.leaf [(.b false)]))
 (.ite (.o .seq (.v 0) (.s [98, 111, 111, 108]))
 (.ite (.o .seq (.v 0) (.s [98, 111, 111, 108]))
 (.leaf [(.b true)])
 (.leaf [(.b false)]))
 (.ite (.o .seq (.v 0) (.s [99, 111, 110, 115, 101, 114, 118, 101]))
 (.ite (.o .seq (.v 0) (.s [99, 111, 110, 115, 101, 114, 118, 101]))
 (.leaf [(.b true)])
 (.leaf [(.b false)]))
 (.ite (.o .seq (.v 0) (.s [99, 111, 110, 115, 116]))
 (.ite (.o .seq (.v 0) (.s [99, 111, 110, 115, 116]))
 (.leaf [(.b true)])
 (.leaf [(.b false)]))
 (.ite (.o .seq (.v 0) (.s [99, 111, 117, 110, 116]))
 (.ite (.o .seq (.v 0) (.s [99, 111, 117, 110, 116]))
 (.leaf [(.b true)])
 (.leaf [(.b false)]))
 (.ite (.o .seq (.v 0) (.s [99, 121, 99, 108, 101]))
 (.ite (.o .seq (.v 0) (.s [99, 121, 99, 108, 101]))
 (.leaf [(.b true)])
 (.leaf [(.b false)]))
 (.ite (.o .seq (.v 0) (.s [100, 111, 119, 110]))
 (.ite (.o .seq (.v 0) (.s [100, 111, 119, 110]))
 (.leaf [(.b true)])
 (.leaf [(.b false)]))
 (.ite (.o .seq (.v 0) (.s [100, 114, 97, 119]))
 (.ite (.o .seq (.v 0) (.s [100, 114, 97, 119]))
 (.leaf [(.b true)])
 (.leaf [(.b false)]))
 (.ite (.o .seq (.v 0) (.s [100, 117, 114]))
 (.ite (.o .seq (.v 0) (.s [100, 117, 114]))
 (.leaf [(.b true)])
 (.leaf [(.b false)]))
 (.ite (.o .seq (.v 0) (.s [101, 108, 115, 101]))
 (.ite (.o .seq (.v 0) (.s [101, 108, 115, 101]))
 (.leaf [(.b true)])
 (.leaf [(.b false)]))
 (.ite (.o .seq (.v 0) (.s [101, 110, 100]))
 (.ite (.o .seq (.v 0) (.s [101, 110, 100]))
 (.leaf [(.b true)])
 (.leaf [(.b false)]))
 (.ite (.o .seq (.v 0) (.s [101, 118, 101, 114, 121]))
 (.ite (.o .seq (.v 0) (.s [101, 118, 101, 114, 121]))
 (.leaf [(.b true)])
 (.leaf [(.b false)]))
 (.ite (.o .seq (.v 0) (.s [102, 97, 108, 115, 101]))
 (.ite (.o .seq (.v 0) (.s [102, 97, 108, 115, 101]))
 (.leaf [(.b true)])
 (.leaf [(.b false)]))
 (.ite (.o .seq (.v 0) (.s [102, 97, 117, 108, 116]))
 (.ite (.o .seq (.v 0) (.s [102, 97, 117, 108, 116]))
 (.leaf [(.b true)])
 (.leaf [(.b false)]))
 (.ite (.o .seq (.v 0) (.s [102, 105, 102, 111]))
 (.ite (.o .seq (.v 0) (.s [102, 105, 102, 111]))
 (.leaf [(.b true)])
 (.leaf [(.b false)]))
 (.ite (.o .seq (.v 0) (.s [102, 114, 101, 101]))
 (.ite (.o .seq (.v 0) (.s [102, 114, 101, 101]))
 (.leaf [(.b true)])
 (.leaf [(.b false)]))
 (.ite (.o .seq (.v 0) (.s [102, 114, 111, 109]))
 (.ite (.o .seq (.v 0) (.s [102, 114, 111, 109]))
 (.leaf [(.b true)])
 (.leaf [(.b false)]))
 (.ite (.o .seq (.v 0) (.s [103, 101, 111, 109]))
 (.ite (.o .seq (.v 0) (.s [103, 101, 111, 109]))
 (.leaf [(.b true)])
 (.leaf [(.b false)]))
 (.ite (.o .seq (.v 0) (.s [103, 101, 116]))
 (.ite (.o .seq (.v 0) (.s [103, 101, 116]))
 (.leaf [(.b true)])
 (.leaf [(.b false)]))
 (.ite (.o .seq (.v 0) (.s [104, 111, 108, 100]))
 (.ite (.o .seq (.v 0) (.s [104, 111, 108, 100]))
 (.leaf [(.b true)])
 (.leaf [(.b false)]))
 (.ite (.o .seq (.v 0) (.s [105, 102]))
 (.ite (.o .seq (.v 0) (.s [105, 102]))
 (.leaf [(.b true)])
 (.leaf [(.b false)]))
 (.ite (.o .seq (.v 0) (.s [105, 110, 116]))
 (.ite (.o .seq (.v 0) (.s [105, 110, 116]))
 (.leaf [(.b true)])
 (.leaf [(.b false)]))
 (.ite (.o .seq (.v 0) (.s [105, 110, 116, 111]))
 (.ite (.o .seq (.v 0) (.s [105, 110, 116, 111]))
 (.leaf [(.b true)])
 (.leaf [(.b false)]))
 (.ite (.o .seq (.v 0) (.s [108, 101, 97, 115, 116]))
 (.ite (.o .seq (.v 0) (.s [108, 101, 97, 115, 116]))
 (.leaf [(.b true)])
 (.leaf [(.b false)]))
 (.ite (.o .seq (.v 0) (.s [108, 101, 118, 101, 108]))
 (.ite (.o .seq (.v 0) (.s [108, 101, 118, 101, 108]))
 (.leaf [(.b true)])
 (.leaf [(.b false)]))
 (.ite (.o .seq (.v 0) (.s [108, 105, 102, 111]))
 (.ite (.o .seq (.v 0) (.s [108, 105, 102, 111]))
 (.leaf [(.b true)])
 (.leaf [(.b false)]))
 (.ite (.o .seq (.v 0) (.s [108, 105, 110, 107]))
 (.ite (.o .seq (.v 0) (.s [108, 105, 110, 107]))
 (.leaf [(.b true)])
 (.leaf [(.b false)]))
 (.ite (.o .seq (.v 0) (.s [108, 111, 99, 97, 108]))
 (.ite (.o .seq (.v 0) (.s [108, 111, 99, 97, 108]))
 (.leaf [(.b true)])
 (.leaf [(.b false)]))
 (.ite (.o .seq (.v 0) (.s [109, 97, 120]))
 (.ite (.o .seq (.v 0) (.s [109, 97, 120]))
 (.leaf [(.b true)])
 (.leaf [(.b false)]))
 (.ite (.o .seq (.v 0) (.s [109, 105, 110]))
 (.ite (.o .seq (.v 0) (.s [109, 105, 110]))
 (.leaf [(.b true)])
 (.leaf [(.b false)]))
 (.ite (.o .seq (.v 0) (.s [109, 111, 100, 101, 108]))
 (.ite (.o .seq (.v 0) (.s [109, 111, 100, 101, 108]))
 (.leaf [(.b true)])
 (.leaf [(.b false)]))
 (.ite (.o .seq (.v 0) (.s [110, 111, 116]))
 (.ite (.o .seq (.v 0) (.s [110, 111, 116]))
 (.leaf [(.b true)])
 (.leaf [(.b false)]))
 (.ite (.o .seq (.v 0) (.s [110, 111, 119]))
 (.ite (.o .seq (.v 0) (.s [110, 111, 119]))
 (.leaf [(.b true)])
 (.leaf [(.b false)]))
 (.ite (.o .seq (.v 0) (.s [111, 98, 115, 101, 114, 118, 101]))
 (.ite (.o .seq (.v 0) (.s [111, 98, 115, 101, 114, 118, 101]))
 (.leaf [(.b true)])
 (.leaf [(.b false)]))
 (.ite (.o .seq (.v 0) (.s [111, 114]))
 (.ite (.o .seq (.v 0) (.s [111, 114]))
 (.leaf [(.b true)])
 (.leaf [(.b false)]))
 (.ite (.o .seq (.v 0) (.s [112, 97, 114, 97, 109]))
 (.ite (.o .seq (.v 0) (.s [112, 97, 114, 97, 109]))
 (.leaf [(.b true)])
 (.leaf [(.b false)]))
 (.ite (.o .seq (.v 0) (.s [112, 114, 101, 101, 109, 112, 116]))
 (.ite (.o .seq (.v 0) (.s [112, 114, 101, 101, 109, 112, 116]))
 (.leaf [(.b true)])
 (.leaf [(.b false)]))
 (.ite (.o .seq (.v 0) (.s [112, 114, 105, 111]))
 (.ite (.o .seq (.v 0) (.s [112, 114, 105, 111]))
 (.leaf [(.b true)])
 (.leaf [(.b false)]))
 (.ite (.o .seq (.v 0) (.s [112, 117, 116]))
 (.ite (.o .seq (.v 0) (.s [112, 117, 116]))
 (.leaf [(.b true)])
 (.leaf [(.b false)]))
 (.ite (.o .seq (.v 0) (.s [113, 117, 101, 117, 101]))
 (.ite (.o .seq (.v 0) (.s [113, 117, 101, 117, 101]))
 (.leaf [(.b true)])
 (.leaf [(.b false)]))
 (.ite (.o .seq (.v 0) (.s [114, 101, 108, 101, 97, 115, 101]))
 (.ite (.o .seq (.v 0) (.s [114, 101, 108, 101, 97, 115, 101]))
 (.leaf [(.b true)])
 (.leaf [(.b false)]))
 (.ite (.o .seq (.v 0) (.s [114, 101, 115, 111, 117, 114, 99, 101]))
 (.ite (.o .seq (.v 0) (.s [114, 101, 115, 111, 117, 114, 99, 101]))
 (.leaf [(.b true)])
 (.leaf [(.b false)]))
 (.ite (.o .seq (.v 0) (.s [114, 105, 100, 101]))
 (.ite (.o .seq (.v 0) (.s [114, 105, 100, 101]))
 (.leaf [(.b true)])
 (.leaf [(.b false)]))
 (.ite (.o .seq (.v 0) (.s [114, 111, 117, 116, 105, 110, 101]))
 (.ite (.o .seq (.v 0) (.s [114, 111, 117, 116, 105, 110, 101]))
 (.leaf [(.b true)])
 (.leaf [(.b false)]))
 (.ite (.o .seq (.v 0) (.s [115, 101, 105, 122, 101]))
 (.ite (.o .seq (.v 0) (.s [115, 101, 105, 122, 101]))
 (.leaf [(.b true)])
 (.leaf [(.b false)]))
 (.ite (.o .seq (.v 0) (.s [115, 101, 110, 100]))
 (.ite (.o .seq (.v 0) (.s [115, 101, 110, 100]))
 (.leaf [(.b true)])
 (.leaf [(.b false)]))
 (.ite (.o .seq (.v 0) (.s [115, 101, 116]))
 (.ite (.o .seq (.v 0) (.s [115, 101, 116]))
 (.leaf [(.b true)])
 (.leaf [(.b false)]))
 (.ite (.o .seq (.v 0) (.s [115, 104, 105, 102, 116]))
 (.ite (.o .seq (.v 0) (.s [115, 104, 105, 102, 116]))
 (.leaf [(.b true)])
 (.leaf [(.b false)]))
 (.ite (.o .seq (.v 0) (.s [115, 105, 103, 110, 97, 108]))
 (.ite (.o .seq (.v 0) (.s [115, 105, 103, 110, 97, 108]))
 (.leaf [(.b true)])
 (.leaf [(.b false)]))
 (.ite (.o .seq (.v 0) (.s [115, 105, 116, 101]))
 (.ite (.o .seq (.v 0) (.s [115, 105, 116, 101]))
 (.leaf [(.b true)])
 (.leaf [(.b false)]))
 (.ite (.o .seq (.v 0) (.s [115, 105, 122, 101]))
 (.ite (.o .seq (.v 0) (.s [115, 105, 122, 101]))
 (.leaf [(.b true)])
 (.leaf [(.b false)]))
 (.ite (.o .seq (.v 0) (.s [115, 112, 97, 119, 110]))
 (.ite (.o .seq (.v 0) (.s [115, 112, 97, 119, 110]))
 (.leaf [(.b true)])
 (.leaf [(.b false)]))
 (.ite (.o .seq (.v 0) (.s [115, 116, 97, 114, 116]))
 (.ite (.o .seq (.v 0) (.s [115, 116, 97, 114, 116]))
 (.leaf [(.b true)])
 (.leaf [(.b false)]))
 (.ite (.o .seq (.v 0) (.s [115, 116, 111, 112]))
 (.ite (.o .seq (.v 0) (.s [115, 116, 111, 112]))
 (.leaf [(.b true)])
 (.leaf [(.b false)]))
 (.ite (.o .seq (.v 0) (.s [115, 116, 111, 114, 101]))
 (.ite (.o .seq (.v 0) (.s [115, 116, 111, 114, 101]))
 (.leaf [(.b true)])
 (.leaf [(.b false)]))
 (.ite (.o .seq (.v 0) (.s [115, 116, 114, 101, 97, 109]))
 (.ite (.o .seq (.v 0) (.s [115, 116, 114, 101, 97, 109]))
 (.leaf [(.b true)])
 (.leaf [(.b false)]))
 (.ite (.o .seq (.v 0) (.s [115, 117, 109]))
 (.ite (.o .seq (.v 0) (.s [115, 117, 109]))
 (.leaf [(.b true)])
 (.leaf [(.b false)]))
 (.ite (.o .seq (.v 0) (.s [116, 97, 98, 108, 101]))
 (.ite (.o .seq (.v 0) (.s [116, 97, 98, 108, 101]))
 (.leaf [(.b true)])
 (.leaf [(.b false)]))
 (.ite (.o .seq (.v 0) (.s [116, 97, 108, 108, 121]))
 (.ite (.o .seq (.v 0) (.s [116, 97, 108, 108, 121]))
 (.leaf [(.b true)])
 (.leaf [(.b false)]))
 (.ite (.o .seq (.v 0) (.s [116, 105, 99, 107, 115]))
 (.ite (.o .seq (.v 0) (.s [116, 105, 99, 107, 115]))
 (.leaf [(.b true)])
 (.leaf [(.b false)]))
 (.ite (.o .seq (.v 0) (.s [116, 105, 109, 101]))
 (.ite (.o .seq (.v 0) (.s [116, 105, 109, 101]))
 (.leaf [(.b true)])
 (.leaf [(.b false)]))
 (.ite (.o .seq (.v 0) (.s [116, 114, 117, 101]))
 (.ite (.o .seq (.v 0) (.s [116, 114, 117, 101]))
 (.leaf [(.b true)])
 (.leaf [(.b false)]))
 (.ite (.o .seq (.v 0) (.s [117, 110, 105, 102, 111, 114, 109]))
 (.ite (.o .seq (.v 0) (.s [117, 110, 105, 102, 111, 114, 109]))
 (.leaf [(.b true)])
 (.leaf [(.b false)]))
 (.ite (.o .seq (.v 0) (.s [117, 110, 116, 105, 108]))
 (.ite (.o .seq (.v 0) (.s [117, 110, 116, 105, 108]))
 (.leaf [(.b true)])
 (.leaf [(.b false)]))
 (.ite (.o .seq (.v 0) (.s [117, 112]))
 (.ite (.o .seq (.v 0) (.s [117, 112]))
 (.leaf [(.b true)])
 (.leaf [(.b false)]))
 (.ite (.o .seq (.v 0) (.s [118, 97, 114]))
 (.ite (.o .seq (.v 0) (.s [118, 97, 114]))
 (.leaf [(.b true)])
 (.leaf [(.b false)]))
 (.ite (.o .seq (.v 0) (.s [119, 97, 105, 116]))
 (.ite (.o .seq (.v 0) (.s [119, 97, 105, 116]))
 (.leaf [(.b true)])
 (.leaf [(.b false)]))
 (.ite (.o .seq (.v 0) (.s [119, 97, 105, 116, 105, 110, 103]))
 (.ite (.o .seq (.v 0) (.s [119, 97, 105, 116, 105, 110, 103]))
 (.leaf [(.b true)])
 (.leaf [(.b false)]))
 (.ite (.o .seq (.v 0) (.s [119, 104, 105, 108, 101]))
 (.leaf [(.b true)])
 (.leaf [(.b false)]))))))))))))))))))))))))))))))))))))))))))))))))))))))))))))))))))))))))))
noncomputable def k_names_Keyword : Known Try.prog := known mixedOk [] (by decide) [] plTypes plOk inFuncs insOk 6 ⟨41, [(.a (.ck .str))], (.c (.a (.ck .bool)))⟩ (fun args w => Try.call41 args w) tk_names_Keyword (by kernel_rfl)
theorem k_names_Keyword_f : k_names_Keyword.con.f = 41 := rfl
theorem k_names_Keyword_F (l : List Sc) : k_names_Keyword.F l = if l.length = 1 then tk_names_Keyword.den (gam (P := Try.prog) []) l [] else none := rfl
def tk_dist_unused : T (List Ex) :=
 (.ite (.o .eq (.v 0) (.i 1))
 (.ite (.o .eq (.o (.add .i64) (.u .len (.v 4)) (.u .len (.v 5))) (.i 0))
 (.ite (.o .eq (.v 2) (.i 0))
 (.leaf [(.o .eq (.v 3) (.i 0))])
 (.leaf [(.b false)]))
 (.leaf [(.b false)]))
 (.ite (.o .eq (.v 0) (.i 2))
 (.ite (.o .eq (.v 0) (.i 2))
 (.ite (.o .eq (.o (.add .i64) (.u .len (.v 4)) (.u .len (.v 5))) (.i 0))
 (.leaf [(.o .eq (.v 3) (.i 0))])
 (.leaf [(.b false)]))
 (.ite (.o .eq (.v 0) (.i 4))
 (.leaf [(.o .eq (.o (.add .i64) (.u .len (.v 4)) (.u .len (.v 5))) (.i 0))])
 (.ite (.o .eq (.v 0) (.i 3))
 (.ite (.o .eq (.v 1) (.i 0))
 (.ite (.o .eq (.v 2) (.i 0))
 (.leaf [(.o .eq (.v 3) (.i 0))])
 (.leaf [(.b false)]))
 (.leaf [(.b false)]))
 (.leaf [(.b false)]))))
 (.ite (.o .eq (.v 0) (.i 5))
 (.ite (.o .eq (.o (.add .i64) (.u .len (.v 4)) (.u .len (.v 5))) (.i 0))
 (.leaf [(.o .eq (.v 3) (.i 0))])
 (.leaf [(.b false)]))
 (.ite (.o .eq (.v 0) (.i 4))
 (.leaf [(.o .eq (.o (.add .i64) (.u .len (.v 4)) (.u .len (.v 5))) (.i 0))])
 (.ite (.o .eq (.v 0) (.i 3))
 (.ite (.o .eq (.v 1) (.i 0))
 (.ite (.o .eq (.v 2) (.i 0))
 (.leaf [(.o .eq (.v 3) (.i 0))])
 (.leaf [(.b false)]))
 (.leaf [(.b false)]))
 (.leaf [(.b false)]))))))
noncomputable def k_dist_unused : Known Try.prog := known mixedOk [] (by decide) [] plTypes plOk inFuncs insOk 6 ⟨42, [(.g [(.ck (.int .i64)), (.ck (.int .i64)), (.ck (.int .i64)), (.ck (.int .i64)), (.row 3 [(.int .i64)] false), (.row 3 [(.int .i64)] false)])], (.c (.a (.ck .bool)))⟩ (fun args w => Try.call42 args w) tk_dist_unused (by kernel_rfl)
theorem k_dist_unused_f : k_dist_unused.con.f = 42 := rfl
theorem k_dist_unused_F (l : List Sc) : k_dist_unused.F l = if l.length = 6 then tk_dist_unused.den (gam (P := Try.prog) []) l [] else none := rfl
def tk_dist_within : T (List Ex) :=
 (.loop [(.i 0)]
 (.ite (.o .lt (.v 3) (.u .len (.v 2)))
 (.need (.o .le (.i 0) (.v 3)) (.need (.o .lt (.v 3) (.u .len (.v 2))) (.ite (.o .lt (.o .idx (.v 2) (.v 3)) (.v 0))
 (.leaf [(.u .not (.o .le (.i 0) (.v 3)))])
 (.ite (.o .lt (.v 1) (.o .idx (.v 2) (.v 3)))
 (.leaf [(.u .not (.o .le (.i 0) (.v 3)))])
 (.next 0 [(.o (.add .i64) (.v 3) (.i 1))])))))
 (.leaf [(.b true)])))
noncomputable def k_dist_within : Known Try.prog := known mixedOk [] (by decide) [⟨7100002, [(8, 0)], [9, 10, 5, 11, 12, 13, 14, 15, 16, 17, 4, 18], [], []⟩] plTypes plOk inFuncs insOk 6 ⟨43, [(.a (.ck (.int .i64))), (.a (.ck (.int .i64))), (.a (.row 3 [(.int .i64)] false))], (.c (.a (.ck .bool)))⟩ (fun args w => Try.call43 args w) tk_dist_within (by kernel_rfl)
theorem k_dist_within_f : k_dist_within.con.f = 43 := rfl
theorem k_dist_within_F (l : List Sc) : k_dist_within.F l = if l.length = 3 then tk_dist_within.den (gam (P := Try.prog) []) l [] else none := rfl
def tk_simulatorref07_letter : T (List Ex) :=
 (.ite (.o .le (.i 97) (.v 0))
 (.leaf [(.o .le (.v 0) (.i 122))])
 (.leaf [(.b false)]))
noncomputable def k_simulatorref07_letter : Known Try.prog := known mixedOk [] (by decide) [] plTypes plOk inFuncs insOk 6 ⟨44, [(.a (.ck (.int .u8)))], (.c (.a (.ck .bool)))⟩ (fun args w => Try.call44 args w) tk_simulatorref07_letter (by kernel_rfl)
theorem k_simulatorref07_letter_f : k_simulatorref07_letter.con.f = 44 := rfl
theorem k_simulatorref07_letter_F (l : List Sc) : k_simulatorref07_letter.F l = if l.length = 1 then tk_simulatorref07_letter.den (gam (P := Try.prog) []) l [] else none := rfl
def tk_simulatorref04_unused : T (List Ex) :=
 (.ite (.o .eq (.u .len (.v 4)) (.i 0))
 (.ite (.o .eq (.v 0) (.i 1))
 (.ite (.o .eq (.v 2) (.i 0))
 (.ite (.o .eq (.v 3) (.i 0))
 (.leaf [(.o .eq (.u .len (.v 5)) (.i 0))])
 (.leaf [(.b false)]))
 (.leaf [(.b false)]))
 (.ite (.o .eq (.v 0) (.i 2))
 (.ite (.o .eq (.v 0) (.i 2))
 (.ite (.o .eq (.v 3) (.i 0))
 (.leaf [(.o .eq (.u .len (.v 5)) (.i 0))])
 (.leaf [(.b false)]))
 (.ite (.o .eq (.v 0) (.i 3))
 (.ite (.o .eq (.v 1) (.i 0))
 (.ite (.o .eq (.v 2) (.i 0))
 (.leaf [(.o .eq (.v 3) (.i 0))])
 (.leaf [(.b false)]))
 (.leaf [(.b false)]))
 (.ite (.o .eq (.v 0) (.i 4))
 (.leaf [(.o .eq (.u .len (.v 5)) (.i 0))])
 (.leaf [(.b false)]))))
 (.ite (.o .eq (.v 0) (.i 5))
 (.ite (.o .eq (.v 3) (.i 0))
 (.leaf [(.o .eq (.u .len (.v 5)) (.i 0))])
 (.leaf [(.b false)]))
 (.ite (.o .eq (.v 0) (.i 3))
 (.ite (.o .eq (.v 1) (.i 0))
 (.ite (.o .eq (.v 2) (.i 0))
 (.leaf [(.o .eq (.v 3) (.i 0))])
 (.leaf [(.b false)]))
 (.leaf [(.b false)]))
 (.ite (.o .eq (.v 0) (.i 4))
 (.leaf [(.o .eq (.u .len (.v 5)) (.i 0))])
 (.leaf [(.b false)]))))))
 (.ite (.o .eq (.v 0) (.i 1))
 (.ite (.o .eq (.v 2) (.i 0))
 (.ite (.o .eq (.v 3) (.i 0))
 (.leaf [(.b false)])
 (.leaf [(.b false)]))
 (.leaf [(.b false)]))
 (.ite (.o .eq (.v 0) (.i 2))
 (.ite (.o .eq (.v 0) (.i 2))
 (.ite (.o .eq (.v 3) (.i 0))
 (.leaf [(.b false)])
 (.leaf [(.b false)]))
 (.ite (.o .eq (.v 0) (.i 3))
 (.ite (.o .eq (.v 1) (.i 0))
 (.ite (.o .eq (.v 2) (.i 0))
 (.leaf [(.o .eq (.v 3) (.i 0))])
 (.leaf [(.b false)]))
 (.leaf [(.b false)]))
 (.ite (.o .eq (.v 0) (.i 4))
 (.leaf [(.b false)])
 (.leaf [(.b false)]))))
 (.ite (.o .eq (.v 0) (.i 5))
 (.ite (.o .eq (.v 3) (.i 0))
 (.leaf [(.b false)])
 (.leaf [(.b false)]))
 (.ite (.o .eq (.v 0) (.i 3))
 (.ite (.o .eq (.v 1) (.i 0))
 (.ite (.o .eq (.v 2) (.i 0))
 (.leaf [(.o .eq (.v 3) (.i 0))])
 (.leaf [(.b false)]))
 (.leaf [(.b false)]))
 (.ite (.o .eq (.v 0) (.i 4))
 (.leaf [(.b false)])
 (.leaf [(.b false)])))))))
noncomputable def k_simulatorref04_unused : Known Try.prog := known mixedOk [] (by decide) [] plTypes plOk inFuncs insOk 6 ⟨46, [(.g [(.ck (.int .i64)), (.ck (.int .i64)), (.ck (.int .i64)), (.ck (.int .i64)), (.row 3 [(.int .i64)] false), (.row 3 [(.int .i64)] false)])], (.c (.a (.ck .bool)))⟩ (fun args w => Try.call46 args w) tk_simulatorref04_unused (by kernel_rfl)
theorem k_simulatorref04_unused_f : k_simulatorref04_unused.con.f = 46 := rfl
theorem k_simulatorref04_unused_F (l : List Sc) : k_simulatorref04_unused.F l = if l.length = 6 then tk_simulatorref04_unused.den (gam (P := Try.prog) []) l [] else none := rfl
def tk_simulatorref04_between : T (List Ex) :=
 (.ite (.o .le (.v 1) (.v 0))
 (.leaf [(.o .le (.v 0) (.v 2))])
 (.leaf [(.b false)]))
noncomputable def k_simulatorref04_between : Known Try.prog := known mixedOk [] (by decide) [] plTypes plOk inFuncs insOk 6 ⟨47, [(.a (.ck (.int .i64))), (.a (.ck (.int .i64))), (.a (.ck (.int .i64)))], (.c (.a (.ck .bool)))⟩ (fun args w => Try.call47 args w) tk_simulatorref04_between (by kernel_rfl)
theorem k_simulatorref04_between_f : k_simulatorref04_between.con.f = 47 := rfl
theorem k_simulatorref04_between_F (l : List Sc) : k_simulatorref04_between.F l = if l.length = 3 then tk_simulatorref04_between.den (gam (P := Try.prog) []) l [] else none := rfl
def tk_simulatorref04_table : T (List Ex) :=
 (.ite (.o .ne (.u .len (.v 4)) (.u .len (.v 5)))
 (.leaf [(.i 8)])
 (.ite (.o .eq (.u .len (.v 4)) (.i 0))
 (.leaf [(.i 7)])
 (.ite (.o .lt (.i 20) (.u .len (.v 4)))
 (.leaf [(.i 6)])
 (.loop [(.i 0)]
 (.ite (.o .lt (.v 6) (.u .len (.v 4)))
 (.need (.o .le (.i 0) (.v 6)) (.need (.o .lt (.v 6) (.u .len (.v 4))) (.call 47 [(.o .idx (.v 4) (.v 6)), (.i 0), (.i 1000000000)] 1
 (.ite (.u .not (.v 7))
 (.leaf [(.i 2)])
 (.need (.o .le (.i 0) (.v 6)) (.need (.o .lt (.v 6) (.u .len (.v 5))) (.call 47 [(.o .idx (.v 5) (.v 6)), (.i 1), (.i 1000)] 1
 (.ite (.u .not (.v 8))
 (.leaf [(.i 2)])
 (.next 0 [(.o (.add .i64) (.v 6) (.i 1))])))))))))
 (.leaf [(.i 0)]))))))
noncomputable def k_simulatorref04_table : Known Try.prog := known mixedOk [k_simulatorref04_between] (by decide) [⟨4800008, [(3, 0)], [19, 20, 21, 22, 23, 26, 27, 28, 29, 30, 31, 32, 33, 34, 35, 36, 37, 38, 39, 40, 41, 2, 24, 25], [], []⟩] plTypes plOk inFuncs insOk 6 ⟨48, [(.g [(.ck (.int .i64)), (.ck (.int .i64)), (.ck (.int .i64)), (.ck (.int .i64)), (.row 3 [(.int .i64)] false), (.row 3 [(.int .i64)] false)])], (.c (.a (.ck (.int .i64))))⟩ (fun args w => Try.call48 args w) tk_simulatorref04_table (by kernel_rfl)
theorem k_simulatorref04_table_f : k_simulatorref04_table.con.f = 48 := rfl
theorem k_simulatorref04_table_F (l : List Sc) : k_simulatorref04_table.F l = if l.length = 6 then tk_simulatorref04_table.den (gam (P := Try.prog) [k_simulatorref04_between]) l [] else none := rfl
def tk_stream_ended : T (List Ex) :=
 (.call 32 [(.v 0), (.v 1), (.v 2)] 1
 (.ite (.o .ne (.v 3) (.i 0))
 (.leaf [(.b true)])
 (.leaf [(.o .eq (.v 1) (.i 1000000000000))])))
noncomputable def k_stream_ended : Known Try.prog := known mixedOk [k_stream_Check] (by decide) [] plTypes plOk inFuncs insOk 6 ⟨49, [(.g [(.ck (.int .u64)), (.ck (.int .i64)), (.ck .bool)])], (.c (.a (.ck .bool)))⟩ (fun args w => Try.call49 args w) tk_stream_ended (by kernel_rfl)
theorem k_stream_ended_f : k_stream_ended.con.f = 49 := rfl
theorem k_stream_ended_F (l : List Sc) : k_stream_ended.F l = if l.length = 3 then tk_stream_ended.den (gam (P := Try.prog) [k_stream_Check]) l [] else none := rfl
def tk_simulatorref03_ends : T (List Ex) :=
 (.call 35 [(.v 0), (.v 1), (.v 2)] 1
 (.ite (.o .ne (.v 3) (.i 0))
 (.leaf [(.b true)])
 (.leaf [(.o .eq (.v 1) (.i 1000000000000))])))
noncomputable def k_simulatorref03_ends : Known Try.prog := known mixedOk [k_simulatorref03_Check] (by decide) [] plTypes plOk inFuncs insOk 6 ⟨54, [(.g [(.ck (.int .u64)), (.ck (.int .i64)), (.ck .bool)])], (.c (.a (.ck .bool)))⟩ (fun args w => Try.call54 args w) tk_simulatorref03_ends (by kernel_rfl)
theorem k_simulatorref03_ends_f : k_simulatorref03_ends.con.f = 54 := rfl
theorem k_simulatorref03_ends_F (l : List Sc) : k_simulatorref03_ends.F l = if l.length = 3 then tk_simulatorref03_ends.den (gam (P := Try.prog) [k_simulatorref03_Check]) l [] else none := rfl
def tk_simulatorref03_Mix : T (List Ex) :=
 (.leaf [(.o (.bxor .u64) (.o (.mul .u64) (.o (.bxor .u64) (.o (.mul .u64) (.o (.bxor .u64) (.v 0) (.o (.shr .u64) (.v 0) (.i 30))) (.i 13787848793156543929)) (.o (.shr .u64) (.o (.mul .u64) (.o (.bxor .u64) (.v 0) (.o (.shr .u64) (.v 0) (.i 30))) (.i 13787848793156543929)) (.i 27))) (.i 10723151780598845931)) (.o (.shr .u64) (.o (.mul .u64) (.o (.bxor .u64) (.o (.mul .u64) (.o (.bxor .u64) (.v 0) (.o (.shr .u64) (.v 0) (.i 30))) (.i 13787848793156543929)) (.o (.shr .u64) (.o (.mul .u64) (.o (.bxor .u64) (.v 0) (.o (.shr .u64) (.v 0) (.i 30))) (.i 13787848793156543929)) (.i 27))) (.i 10723151780598845931)) (.i 31)))])
noncomputable def k_simulatorref03_Mix : Known Try.prog := known mixedOk [] (by decide) [] plTypes plOk inFuncs insOk 6 ⟨55, [(.a (.ck (.int .u64)))], (.c (.a (.ck (.int .u64))))⟩ (fun args w => Try.call55 args w) tk_simulatorref03_Mix (by kernel_rfl)
theorem k_simulatorref03_Mix_f : k_simulatorref03_Mix.con.f = 55 := rfl
theorem k_simulatorref03_Mix_F (l : List Sc) : k_simulatorref03_Mix.F l = if l.length = 1 then tk_simulatorref03_Mix.den (gam (P := Try.prog) []) l [] else none := rfl
def tk_simulatorref04_Upper : T (List Ex) :=
 (.leaf [(.o (.add .u64) (.o (.add .u64) (.o (.mul .u64) (.o (.shr .u64) (.v 0) (.i 32)) (.o (.shr .u64) (.v 1) (.i 32))) (.o (.shr .u64) (.o (.add .u64) (.o (.mul .u64) (.o (.shr .u64) (.v 0) (.i 32)) (.o (.band .u64) (.v 1) (.i 4294967295))) (.o (.shr .u64) (.o (.mul .u64) (.o (.band .u64) (.v 0) (.i 4294967295)) (.o (.band .u64) (.v 1) (.i 4294967295))) (.i 32))) (.i 32))) (.o (.shr .u64) (.o (.add .u64) (.o (.mul .u64) (.o (.band .u64) (.v 0) (.i 4294967295)) (.o (.shr .u64) (.v 1) (.i 32))) (.o (.band .u64) (.o (.add .u64) (.o (.mul .u64) (.o (.shr .u64) (.v 0) (.i 32)) (.o (.band .u64) (.v 1) (.i 4294967295))) (.o (.shr .u64) (.o (.mul .u64) (.o (.band .u64) (.v 0) (.i 4294967295)) (.o (.band .u64) (.v 1) (.i 4294967295))) (.i 32))) (.i 4294967295))) (.i 32)))])
noncomputable def k_simulatorref04_Upper : Known Try.prog := known mixedOk [] (by decide) [] plTypes plOk inFuncs insOk 6 ⟨56, [(.a (.ck (.int .u64))), (.a (.ck (.int .u64)))], (.c (.a (.ck (.int .u64))))⟩ (fun args w => Try.call56 args w) tk_simulatorref04_Upper (by kernel_rfl)
theorem k_simulatorref04_Upper_f : k_simulatorref04_Upper.con.f = 56 := rfl
theorem k_simulatorref04_Upper_F (l : List Sc) : k_simulatorref04_Upper.F l = if l.length = 2 then tk_simulatorref04_Upper.den (gam (P := Try.prog) []) l [] else none := rfl
def tk_simulatorref04_geometric : T (List Ex) :=
 (.loop [(.i 18446744073709551615), (.i 1)]
 (.ite (.o .lt (.v 4) (.v 1))
 (.need (.o .ne (.u (.conv .u64) (.v 0)) (.i 0)) (.need (.o .ne (.u (.conv .u64) (.v 0)) (.i 0)) (.ite (.o .ne (.o (.rem .u64) (.v 3) (.u (.conv .u64) (.v 0))) (.i 0))
 (.ite (.o .le (.o (.sub .u64) (.v 3) (.o (.add .u64) (.o (.quo .u64) (.v 3) (.u (.conv .u64) (.v 0))) (.i 1))) (.o (.bxor .u64) (.i 18446744073709551615) (.v 2)))
 (.leaf [(.v 4)])
 (.next 0 [(.o (.sub .u64) (.v 3) (.o (.add .u64) (.o (.quo .u64) (.v 3) (.u (.conv .u64) (.v 0))) (.i 1))), (.o (.add .i64) (.v 4) (.i 1))]))
 (.ite (.o .le (.o (.sub .u64) (.v 3) (.o (.quo .u64) (.v 3) (.u (.conv .u64) (.v 0)))) (.o (.bxor .u64) (.i 18446744073709551615) (.v 2)))
 (.leaf [(.v 4)])
 (.next 0 [(.o (.sub .u64) (.v 3) (.o (.quo .u64) (.v 3) (.u (.conv .u64) (.v 0)))), (.o (.add .i64) (.v 4) (.i 1))])))))
 (.leaf [(.v 1)])))
noncomputable def k_simulatorref04_geometric : Known Try.prog := known mixedOk [] (by decide) [⟨5800004, [(8, 0), (10, 0)], [16, 17, 18, 21, 22, 23, 11, 24, 25, 26, 27, 28, 29, 30, 31, 32, 33, 34, 35, 36, 6, 19, 20], [], []⟩] plTypes plOk inFuncs insOk 6 ⟨58, [(.a (.ck (.int .i64))), (.a (.ck (.int .i64))), (.a (.ck (.int .u64)))], (.c (.a (.ck (.int .i64))))⟩ (fun args w => Try.call58 args w) tk_simulatorref04_geometric (by kernel_rfl)
theorem k_simulatorref04_geometric_f : k_simulatorref04_geometric.con.f = 58 := rfl
theorem k_simulatorref04_geometric_F (l : List Sc) : k_simulatorref04_geometric.F l = if l.length = 3 then tk_simulatorref04_geometric.den (gam (P := Try.prog) []) l [] else none := rfl
def tk_simulatorref07_Find : T (List Ex) :=
 (.loop [(.i 0)]
 (.ite (.o .lt (.v 2) (.u .len (.v 0)))
 (.need (.o .le (.i 0) (.v 2)) (.need (.o .lt (.v 2) (.u .len (.v 0))) (.ite (.o .seq (.o .idx (.v 0) (.v 2)) (.v 1))
 (.leaf [(.v 2)])
 (.next 0 [(.o (.add .i64) (.v 2) (.i 1))]))))
 (.leaf [(.i (-1))])))
noncomputable def k_simulatorref07_Find : Known Try.prog := known mixedOk [] (by decide) [⟨6100002, [(5, 0)], [6, 7, 8, 9, 12, 13, 14, 15, 16, 17, 18, 4, 10, 11], [], []⟩] plTypes plOk inFuncs insOk 6 ⟨61, [(.a (.row 9 [.str] false)), (.a (.ck .str))], (.c (.a (.ck (.int .i64))))⟩ (fun args w => Try.call61 args w) tk_simulatorref07_Find (by kernel_rfl)
theorem k_simulatorref07_Find_f : k_simulatorref07_Find.con.f = 61 := rfl
theorem k_simulatorref07_Find_F (l : List Sc) : k_simulatorref07_Find.F l = if l.length = 2 then tk_simulatorref07_Find.den (gam (P := Try.prog) []) l [] else none := rfl
def tk_simulatorref07_Keywords : T (List Ex) :=
 (.leaf [(.o .cons (.s [97, 100, 100]) (.o .cons (.s [97, 102, 116, 101, 114]) (.o .cons (.s [97, 110, 100]) (.o .cons (.s [97, 116]) (.o .cons (.s [98, 101, 108, 116]) (.o .cons (.s [98, 111, 111, 108]) (.o .cons (.s [99, 111, 110, 115, 101, 114, 118, 101]) (.o .cons (.s [99, 111, 110, 115, 116]) (.o .cons (.s [99, 111, 117, 110, 116]) (.o .cons (.s [99, 121, 99, 108, 101]) (.o .cons (.s [100, 111, 119, 110]) (.o .cons (.s [100, 114, 97, 119]) (.o .cons (.s [100, 117, 114]) (.o .cons (.s [101, 108, 115, 101]) (.o .cons (.s [101, 110, 100]) (.o .cons (.s [101, 118, 101, 114, 121]) (.o .cons (.s [102, 97, 108, 115, 101]) (.o .cons (.s [102, 97, 117, 108, 116]) (.o .cons (.s [102, 105, 102, 111]) (.o .cons (.s [102, 114, 101, 101]) (.o .cons (.s [102, 114, 111, 109]) (.o .cons (.s [103, 101, 111, 109]) (.o .cons (.s [103, 101, 116]) (.o .cons (.s [104, 111, 108, 100]) (.o .cons (.s [105, 102]) (.o .cons (.s [105, 110, 116]) (.o .cons (.s [105, 110, 116, 111]) (.o .cons (.s [108, 101, 97, 115, 116]) (.o .cons (.s [108, 101, 118, 101, 108]) (.o .cons (.s [108, 105, 102, 111]) (.o .cons (.s [108, 105, 110, 107]) (.o .cons (.s [108, 111, 99, 97, 108]) (.o .cons (.s [109, 97, 120]) (.o .cons (.s [109, 105, 110]) (.o .cons (.s [109, 111, 100, 101, 108]) (.o .cons (.s [110, 111, 116]) (.o .cons (.s [110, 111, 119]) (.o .cons (.s [111, 98, 115, 101, 114, 118, 101]) (.o .cons (.s [111, 114]) (.o .cons (.s [112, 97, 114, 97, 109]) (.o .cons (.s [112, 114, 101, 101, 109, 112, 116]) (.o .cons (.s [112, 114, 105, 111]) (.o .cons (.s [112, 117, 116]) (.o .cons (.s [113, 117, 101, 117, 101]) (.o .cons (.s [114, 101, 108, 101, 97, 115, 101]) (.o .cons (.s [114, 101, 115, 111, 117, 114, 99, 101]) (.o .cons (.s [114, 105, 100, 101]) (.o .cons (.s [114, 111, 117, 116, 105, 110, 101]) (.o .cons (.s [115, 101, 105, 122, 101]) (.o .cons (.s [115, 101, 110, 100]) (.o .cons (.s [115, 101, 116]) (.o .cons (.s [115, 104, 105, 102, 116]) (.o .cons (.s [115, 105, 103, 110, 97, 108]) (.o .cons (.s [115, 105, 116, 101]) (.o .cons (.s [115, 105, 122, 101]) (.o .cons (.s [115, 112, 97, 119, 110]) (.o .cons (.s [115, 116, 97, 114, 116]) (.o .cons (.s [115, 116, 111, 112]) (.o .cons (.s [115, 116, 111, 114, 101]) (.o .cons (.s [115, 116, 114, 101, 97, 109]) (.o .cons (.s [115, 117, 109]) (.o .cons (.s [116, 97, 98, 108, 101]) (.o .cons (.s [116, 97, 108, 108, 121]) (.o .cons (.s [116, 105, 99, 107, 115]) (.o .cons (.s [116, 105, 109, 101]) (.o .cons (.s [116, 114, 117, 101]) (.o .cons (.s [117, 110, 105, 102, 111, 114, 109]) (.o .cons (.s [117, 110, 116, 105, 108]) (.o .cons (.s [117, 112]) (.o .cons (.s [118, 97, 114]) (.o .cons (.s [119, 97, 105, 116]) (.o .cons (.s [119, 97, 105, 116, 105, 110, 103]) (.o .cons (.s [119, 104, 105, 108, 101]) .nil)))))))))))))))))))))))))))))))))))))))))))))))))))))))))))))))))))))))))])
noncomputable def k_simulatorref07_Keywords : Known Try.prog := known mixedOk [] (by decide) [] plTypes plOk inFuncs insOk 6 ⟨62, [], (.c (.a (.row 9 [.str] false)))⟩ (fun args w => Try.call62 args w) tk_simulatorref07_Keywords (by kernel_rfl)
theorem k_simulatorref07_Keywords_f : k_simulatorref07_Keywords.con.f = 62 := rfl
theorem k_simulatorref07_Keywords_F (l : List Sc) : k_simulatorref07_Keywords.F l = if l.length = 0 then tk_simulatorref07_Keywords.den (gam (P := Try.prog) []) l [] else none := rfl
def tk_stream_Mix : T (List Ex) :=
 (.leaf [(.o (.bxor .u64) (.o (.mul .u64) (.o (.bxor .u64) (.o (.mul .u64) (.o (.bxor .u64) (.v 0) (.o (.shr .u64) (.v 0) (.i 30))) (.i 13787848793156543929)) (.o (.shr .u64) (.o (.mul .u64) (.o (.bxor .u64) (.v 0) (.o (.shr .u64) (.v 0) (.i 30))) (.i 13787848793156543929)) (.i 27))) (.i 10723151780598845931)) (.o (.shr .u64) (.o (.mul .u64) (.o (.bxor .u64) (.o (.mul .u64) (.o (.bxor .u64) (.v 0) (.o (.shr .u64) (.v 0) (.i 30))) (.i 13787848793156543929)) (.o (.shr .u64) (.o (.mul .u64) (.o (.bxor .u64) (.v 0) (.o (.shr .u64) (.v 0) (.i 30))) (.i 13787848793156543929)) (.i 27))) (.i 10723151780598845931)) (.i 31)))])
noncomputable def k_stream_Mix : Known Try.prog := known mixedOk [] (by decide) [] plTypes plOk inFuncs insOk 6 ⟨63, [(.a (.ck (.int .u64)))], (.c (.a (.ck (.int .u64))))⟩ (fun args w => Try.call63 args w) tk_stream_Mix (by kernel_rfl)
theorem k_stream_Mix_f : k_stream_Mix.con.f = 63 := rfl
theorem k_stream_Mix_F (l : List Sc) : k_stream_Mix.F l = if l.length = 1 then tk_stream_Mix.den (gam (P := Try.prog) []) l [] else none := rfl
def tk_bits_Mul64 : T (List Ex) :=
 (.leaf [(.o (.add .u64) (.o (.add .u64) (.o (.mul .u64) (.o (.shr .u64) (.v 0) (.i 32)) (.o (.shr .u64) (.v 1) (.i 32))) (.o (.shr .u64) (.o (.add .u64) (.o (.mul .u64) (.o (.shr .u64) (.v 0) (.i 32)) (.o (.band .u64) (.v 1) (.i 4294967295))) (.o (.shr .u64) (.o (.mul .u64) (.o (.band .u64) (.v 0) (.i 4294967295)) (.o (.band .u64) (.v 1) (.i 4294967295))) (.i 32))) (.i 32))) (.o (.shr .u64) (.o (.add .u64) (.o (.band .u64) (.o (.add .u64) (.o (.mul .u64) (.o (.shr .u64) (.v 0) (.i 32)) (.o (.band .u64) (.v 1) (.i 4294967295))) (.o (.shr .u64) (.o (.mul .u64) (.o (.band .u64) (.v 0) (.i 4294967295)) (.o (.band .u64) (.v 1) (.i 4294967295))) (.i 32))) (.i 4294967295)) (.o (.mul .u64) (.o (.band .u64) (.v 0) (.i 4294967295)) (.o (.shr .u64) (.v 1) (.i 32)))) (.i 32))), (.o (.mul .u64) (.v 0) (.v 1))])
noncomputable def k_bits_Mul64 : Known Try.prog := known mixedOk [] (by decide) [] plTypes plOk inFuncs insOk 6 ⟨64, [(.a (.ck (.int .u64))), (.a (.ck (.int .u64)))], (.t [(.a (.ck (.int .u64))), (.a (.ck (.int .u64)))])⟩ (fun args w => Try.call64 args w) tk_bits_Mul64 (by kernel_rfl)
theorem k_bits_Mul64_f : k_bits_Mul64.con.f = 64 := rfl
theorem k_bits_Mul64_F (l : List Sc) : k_bits_Mul64.F l = if l.length = 2 then tk_bits_Mul64.den (gam (P := Try.prog) []) l [] else none := rfl
def tk_dist_weight : T (List Ex) :=
 (.loop [(.i 0), (.i 0)]
 (.ite (.o .lt (.v 7) (.u .len (.v 5)))
 (.need (.o .le (.i 0) (.v 7)) (.need (.o .lt (.v 7) (.u .len (.v 5))) (.next 0 [(.o (.add .i64) (.v 6) (.o .idx (.v 5) (.v 7))), (.o (.add .i64) (.v 7) (.i 1))])))
 (.leaf [(.v 6)])))
noncomputable def k_dist_weight : Known Try.prog := known mixedOk [] (by decide) [⟨6800003, [(3, 0), (9, 0)], [10, 11, 12, 5, 13, 14, 15, 16], [], []⟩] plTypes plOk inFuncs insOk 6 ⟨68, [(.g [(.ck (.int .i64)), (.ck (.int .i64)), (.ck (.int .i64)), (.ck (.int .i64)), (.row 3 [(.int .i64)] false), (.row 3 [(.int .i64)] false)])], (.c (.a (.ck (.int .i64))))⟩ (fun args w => Try.call68 args w) tk_dist_weight (by kernel_rfl)
theorem k_dist_weight_f : k_dist_weight.con.f = 68 := rfl
theorem k_dist_weight_F (l : List Sc) : k_dist_weight.F l = if l.length = 6 then tk_dist_weight.den (gam (P := Try.prog) []) l [] else none := rfl
def tk_simulatorref04_Sum : T (List Ex) :=
 (.loop [(.i 0), (.i 0)]
 (.ite (.o .lt (.v 2) (.u .len (.v 0)))
 (.need (.o .le (.i 0) (.v 2)) (.need (.o .lt (.v 2) (.u .len (.v 0))) (.next 0 [(.o (.add .i64) (.v 1) (.o .idx (.v 0) (.v 2))), (.o (.add .i64) (.v 2) (.i 1))])))
 (.leaf [(.v 1)])))
noncomputable def k_simulatorref04_Sum : Known Try.prog := known mixedOk [] (by decide) [⟨7000003, [(3, 0), (4, 0)], [5, 6, 7, 8, 11, 12, 13, 14, 15, 16, 9, 10], [], []⟩] plTypes plOk inFuncs insOk 6 ⟨70, [(.a (.row 3 [(.int .i64)] false))], (.c (.a (.ck (.int .i64))))⟩ (fun args w => Try.call70 args w) tk_simulatorref04_Sum (by kernel_rfl)
theorem k_simulatorref04_Sum_f : k_simulatorref04_Sum.con.f = 70 := rfl
theorem k_simulatorref04_Sum_F (l : List Sc) : k_simulatorref04_Sum.F l = if l.length = 1 then tk_simulatorref04_Sum.den (gam (P := Try.prog) []) l [] else none := rfl
def tk_cmp_isNaN_int_ : T (List Ex) :=
 (.leaf [(.o .ne (.v 0) (.v 0))])
noncomputable def k_cmp_isNaN_int_ : Known Try.prog := known mixedOk [] (by decide) [] plTypes plOk inFuncs insOk 6 ⟨73, [(.a (.ck (.int .i64)))], (.c (.a (.ck .bool)))⟩ (fun args w => Try.call73 args w) tk_cmp_isNaN_int_ (by kernel_rfl)
theorem k_cmp_isNaN_int__f : k_cmp_isNaN_int_.con.f = 73 := rfl
theorem k_cmp_isNaN_int__F (l : List Sc) : k_cmp_isNaN_int_.F l = if l.length = 1 then tk_cmp_isNaN_int_.den (gam (P := Try.prog) []) l [] else none := rfl
def tk_bits_Len64 : T (List Ex) :=
 (.ite (.o .le (.i 4294967296) (.v 0))
 (.ite (.o .le (.i 65536) (.o (.shr .u64) (.v 0) (.i 32)))
 (.ite (.o .le (.i 256) (.o (.shr .u64) (.o (.shr .u64) (.v 0) (.i 32)) (.i 16)))
 (.need (.o .le (.i 0) (.u (.conv .u8) (.o (.shr .u64) (.o (.shr .u64) (.o (.shr .u64) (.v 0) (.i 32)) (.i 16)) (.i 8)))) (.need (.o .lt (.u (.conv .u8) (.o (.shr .u64) (.o (.shr .u64) (.o (.shr .u64) (.v 0) (.i 32)) (.i 16)) (.i 8))) (.u .slen (.s [0, 1, 2, 2, 3, 3, 3, 3, 4, 4, 4, 4, 4, 4, 4, 4, 5, 5, 5, 5, 5, 5, 5, 5, 5, 5, 5, 5, 5, 5, 5, 5, 6, 6, 6, 6, 6, 6, 6, 6, 6, 6, 6, 6, 6, 6, 6, 6, 6, 6, 6, 6, 6, 6, 6, 6, 6, 6, 6, 6, 6, 6, 6, 6, 7, 7, 7, 7, 7, 7, 7, 7, 7, 7, 7, 7, 7, 7, 7, 7, 7, 7, 7, 7, 7, 7, 7, 7, 7, 7, 7, 7, 7, 7, 7, 7, 7, 7, 7, 7, 7, 7, 7, 7, 7, 7, 7, 7, 7, 7, 7, 7, 7, 7, 7, 7, 7, 7, 7, 7, 7, 7, 7, 7, 7, 7, 7, 7, 8, 8, 8, 8, 8, 8, 8, 8, 8, 8, 8, 8, 8, 8, 8, 8, 8, 8, 8, 8, 8, 8, 8, 8, 8, 8, 8, 8, 8, 8, 8, 8, 8, 8, 8, 8, 8, 8, 8, 8, 8, 8, 8, 8, 8, 8, 8, 8, 8, 8, 8, 8, 8, 8, 8, 8, 8, 8, 8, 8, 8, 8, 8, 8, 8, 8, 8, 8, 8, 8, 8, 8, 8, 8, 8, 8, 8, 8, 8, 8, 8, 8, 8, 8, 8, 8, 8, 8, 8, 8, 8, 8, 8, 8, 8, 8, 8, 8, 8, 8, 8, 8, 8, 8, 8, 8, 8, 8, 8, 8, 8, 8, 8, 8, 8, 8, 8, 8, 8, 8, 8, 8, 8, 8, 8, 8, 8, 8]))) (.leaf [(.o (.add .i64) (.i 56) (.u (.conv .i64) (.o .sidx (.s [0, 1, 2, 2, 3, 3, 3, 3, 4, 4, 4, 4, 4, 4, 4, 4, 5, 5, 5, 5, 5, 5, 5, 5, 5, 5, 5, 5, 5, 5, 5, 5, 6, 6, 6, 6, 6, 6, 6, 6, 6, 6, 6, 6, 6, 6, 6, 6, 6, 6, 6, 6, 6, 6, 6, 6, 6, 6, 6, 6, 6, 6, 6, 6, 7, 7, 7, 7, 7, 7, 7, 7, 7, 7, 7, 7, 7, 7, 7, 7, 7, 7, 7, 7, 7, 7, 7, 7, 7, 7, 7, 7, 7, 7, 7, 7, 7, 7, 7, 7, 7, 7, 7, 7, 7, 7, 7, 7, 7, 7, 7, 7, 7, 7, 7, 7, 7, 7, 7, 7, 7, 7, 7, 7, 7, 7, 7, 7, 8, 8, 8, 8, 8, 8, 8, 8, 8, 8, 8, 8, 8, 8, 8, 8, 8, 8, 8, 8, 8, 8, 8, 8, 8, 8, 8, 8, 8, 8, 8, 8, 8, 8, 8, 8, 8, 8, 8, 8, 8, 8, 8, 8, 8, 8, 8, 8, 8, 8, 8, 8, 8, 8, 8, 8, 8, 8, 8, 8, 8, 8, 8, 8, 8, 8, 8, 8, 8, 8, 8, 8, 8, 8, 8, 8, 8, 8, 8, 8, 8, 8, 8, 8, 8, 8, 8, 8, 8, 8, 8, 8, 8, 8, 8, 8, 8, 8, 8, 8, 8, 8, 8, 8, 8, 8, 8, 8, 8, 8, 8, 8, 8, 8, 8, 8, 8, 8, 8, 8, 8, 8, 8, 8, 8, 8, 8, 8]) (.u (.conv .u8) (.o (.shr .u64) (.o (.shr .u64) (.o (.shr .u64) (.v 0) (.i 32)) (.i 16)) (.i 8))))))])))
 (.need (.o .le (.i 0) (.u (.conv .u8) (.o (.shr .u64) (.o (.shr .u64) (.v 0) (.i 32)) (.i 16)))) (.need (.o .lt (.u (.conv .u8) (.o (.shr .u64) (.o (.shr .u64) (.v 0) (.i 32)) (.i 16))) (.u .slen (.s [0, 1, 2, 2, 3, 3, 3, 3, 4, 4, 4, 4, 4, 4, 4, 4, 5, 5, 5, 5, 5, 5, 5, 5, 5, 5, 5, 5, 5, 5, 5, 5, 6, 6, 6, 6, 6, 6, 6, 6, 6, 6, 6, 6, 6, 6, 6, 6, 6, 6, 6, 6, 6, 6, 6, 6, 6, 6, 6, 6, 6, 6, 6, 6, 7, 7, 7, 7, 7, 7, 7, 7, 7, 7, 7, 7, 7, 7, 7, 7, 7, 7, 7, 7, 7, 7, 7, 7, 7, 7, 7, 7, 7, 7, 7, 7, 7, 7, 7, 7, 7, 7, 7, 7, 7, 7, 7, 7, 7, 7, 7, 7, 7, 7, 7, 7, 7, 7, 7, 7, 7, 7, 7, 7, 7, 7, 7, 7, 8, 8, 8, 8, 8, 8, 8, 8, 8, 8, 8, 8, 8, 8, 8, 8, 8, 8, 8, 8, 8, 8, 8, 8, 8, 8, 8, 8, 8, 8, 8, 8, 8, 8, 8, 8, 8, 8, 8, 8, 8, 8, 8, 8, 8, 8, 8, 8, 8, 8, 8, 8, 8, 8, 8, 8, 8, 8, 8, 8, 8, 8, 8, 8, 8, 8, 8, 8, 8, 8, 8, 8, 8, 8, 8, 8, 8, 8, 8, 8, 8, 8, 8, 8, 8, 8, 8, 8, 8, 8, 8, 8, 8, 8, 8, 8, 8, 8, 8, 8, 8, 8, 8, 8, 8, 8, 8, 8, 8, 8, 8, 8, 8, 8, 8, 8, 8, 8, 8, 8, 8, 8, 8, 8, 8, 8, 8, 8]))) (.leaf [(.o (.add .i64) (.i 48) (.u (.conv .i64) (.o .sidx (.s [0, 1, 2, 2, 3, 3, 3, 3, 4, 4, 4, 4, 4, 4, 4, 4, 5, 5, 5, 5, 5, 5, 5, 5, 5, 5, 5, 5, 5, 5, 5, 5, 6, 6, 6, 6, 6, 6, 6, 6, 6, 6, 6, 6, 6, 6, 6, 6, 6, 6, 6, 6, 6, 6, 6, 6, 6, 6, 6, 6, 6, 6, 6, 6, 7, 7, 7, 7, 7, 7, 7, 7, 7, 7, 7, 7, 7, 7, 7, 7, 7, 7, 7, 7, 7, 7, 7, 7, 7, 7, 7, 7, 7, 7, 7, 7, 7, 7, 7, 7, 7, 7, 7, 7, 7, 7, 7, 7, 7, 7, 7, 7, 7, 7, 7, 7, 7, 7, 7, 7, 7, 7, 7, 7, 7, 7, 7, 7, 8, 8, 8, 8, 8, 8, 8, 8, 8, 8, 8, 8, 8, 8, 8, 8, 8, 8, 8, 8, 8, 8, 8, 8, 8, 8, 8, 8, 8, 8, 8, 8, 8, 8, 8, 8, 8, 8, 8, 8, 8, 8, 8, 8, 8, 8, 8, 8, 8, 8, 8, 8, 8, 8, 8, 8, 8, 8, 8, 8, 8, 8, 8, 8, 8, 8, 8, 8, 8, 8, 8, 8, 8, 8, 8, 8, 8, 8, 8, 8, 8, 8, 8, 8, 8, 8, 8, 8, 8, 8, 8, 8, 8, 8, 8, 8, 8, 8, 8, 8, 8, 8, 8, 8, 8, 8, 8, 8, 8, 8, 8, 8, 8, 8, 8, 8, 8, 8, 8, 8, 8, 8, 8, 8, 8, 8, 8, 8]) (.u (.conv .u8) (.o (.shr .u64) (.o (.shr .u64) (.v 0) (.i 32)) (.i 16))))))]))))
 (.ite (.o .le (.i 256) (.o (.shr .u64) (.v 0) (.i 32)))
 (.need (.o .le (.i 0) (.u (.conv .u8) (.o (.shr .u64) (.o (.shr .u64) (.v 0) (.i 32)) (.i 8)))) (.need (.o .lt (.u (.conv .u8) (.o (.shr .u64) (.o (.shr .u64) (.v 0) (.i 32)) (.i 8))) (.u .slen (.s [0, 1, 2, 2, 3, 3, 3, 3, 4, 4, 4, 4, 4, 4, 4, 4, 5, 5, 5, 5, 5, 5, 5, 5, 5, 5, 5, 5, 5, 5, 5, 5, 6, 6, 6, 6, 6, 6, 6, 6, 6, 6, 6, 6, 6, 6, 6, 6, 6, 6, 6, 6, 6, 6, 6, 6, 6, 6, 6, 6, 6, 6, 6, 6, 7, 7, 7, 7, 7, 7, 7, 7, 7, 7, 7, 7, 7, 7, 7, 7, 7, 7, 7, 7, 7, 7, 7, 7, 7, 7, 7, 7, 7, 7, 7, 7, 7, 7, 7, 7, 7, 7, 7, 7, 7, 7, 7, 7, 7, 7, 7, 7, 7, 7, 7, 7, 7, 7, 7, 7, 7, 7, 7, 7, 7, 7, 7, 7, 8, 8, 8, 8, 8, 8, 8, 8, 8, 8, 8, 8, 8, 8, 8, 8, 8, 8, 8, 8, 8, 8, 8, 8, 8, 8, 8, 8, 8, 8, 8, 8, 8, 8, 8, 8, 8, 8, 8, 8, 8, 8, 8, 8, 8, 8, 8, 8, 8, 8, 8, 8, 8, 8, 8, 8, 8, 8, 8, 8, 8, 8, 8, 8, 8, 8, 8, 8, 8, 8, 8, 8, 8, 8, 8, 8, 8, 8, 8, 8, 8, 8, 8, 8, 8, 8, 8, 8, 8, 8, 8, 8, 8, 8, 8, 8, 8, 8, 8, 8, 8, 8, 8, 8, 8, 8, 8, 8, 8, 8, 8, 8, 8, 8, 8, 8, 8, 8, 8, 8, 8, 8, 8, 8, 8, 8, 8, 8]))) (.leaf [(.o (.add .i64) (.i 40) (.u (.conv .i64) (.o .sidx (.s [0, 1, 2, 2, 3, 3, 3, 3, 4, 4, 4, 4, 4, 4, 4, 4, 5, 5, 5, 5, 5, 5, 5, 5, 5, 5, 5, 5, 5, 5, 5, 5, 6, 6, 6, 6, 6, 6, 6, 6, 6, 6, 6, 6, 6, 6, 6, 6, 6, 6, 6, 6, 6, 6, 6, 6, 6, 6, 6, 6, 6, 6, 6, 6, 7, 7, 7, 7, 7, 7, 7, 7, 7, 7, 7, 7, 7, 7, 7, 7, 7, 7, 7, 7, 7, 7, 7, 7, 7, 7, 7, 7, 7, 7, 7, 7, 7, 7, 7, 7, 7, 7, 7, 7, 7, 7, 7, 7, 7, 7, 7, 7, 7, 7, 7, 7, 7, 7, 7, 7, 7, 7, 7, 7, 7, 7, 7, 7, 8, 8, 8, 8, 8, 8, 8, 8, 8, 8, 8, 8, 8, 8, 8, 8, 8, 8, 8, 8, 8, 8, 8, 8, 8, 8, 8, 8, 8, 8, 8, 8, 8, 8, 8, 8, 8, 8, 8, 8, 8, 8, 8, 8, 8, 8, 8, 8, 8, 8, 8, 8, 8, 8, 8, 8, 8, 8, 8, 8, 8, 8, 8, 8, 8, 8, 8, 8, 8, 8, 8, 8, 8, 8, 8, 8, 8, 8, 8, 8, 8, 8, 8, 8, 8, 8, 8, 8, 8, 8, 8, 8, 8, 8, 8, 8, 8, 8, 8, 8, 8, 8, 8, 8, 8, 8, 8, 8, 8, 8, 8, 8, 8, 8, 8, 8, 8, 8, 8, 8, 8, 8, 8, 8, 8, 8, 8, 8]) (.u (.conv .u8) (.o (.shr .u64) (.o (.shr .u64) (.v 0) (.i 32)) (.i 8))))))])))
 (.need (.o .le (.i 0) (.u (.conv .u8) (.o (.shr .u64) (.v 0) (.i 32)))) (.need (.o .lt (.u (.conv .u8) (.o (.shr .u64) (.v 0) (.i 32))) (.u .slen (.s [0, 1, 2, 2, 3, 3, 3, 3, 4, 4, 4, 4, 4, 4, 4, 4, 5, 5, 5, 5, 5, 5, 5, 5, 5, 5, 5, 5, 5, 5, 5, 5, 6, 6, 6, 6, 6, 6, 6, 6, 6, 6, 6, 6, 6, 6, 6, 6, 6, 6, 6, 6, 6, 6, 6, 6, 6, 6, 6, 6, 6, 6, 6, 6, 7, 7, 7, 7, 7, 7, 7, 7, 7, 7, 7, 7, 7, 7, 7, 7, 7, 7, 7, 7, 7, 7, 7, 7, 7, 7, 7, 7, 7, 7, 7, 7, 7, 7, 7, 7, 7, 7, 7, 7, 7, 7, 7, 7, 7, 7, 7, 7, 7, 7, 7, 7, 7, 7, 7, 7, 7, 7, 7, 7, 7, 7, 7, 7, 8, 8, 8, 8, 8, 8, 8, 8, 8, 8, 8, 8, 8, 8, 8, 8, 8, 8, 8, 8, 8, 8, 8, 8, 8, 8, 8, 8, 8, 8, 8, 8, 8, 8, 8, 8, 8, 8, 8, 8, 8, 8, 8, 8, 8, 8, 8, 8, 8, 8, 8, 8, 8, 8, 8, 8, 8, 8, 8, 8, 8, 8, 8, 8, 8, 8, 8, 8, 8, 8, 8, 8, 8, 8, 8, 8, 8, 8, 8, 8, 8, 8, 8, 8, 8, 8, 8, 8, 8, 8, 8, 8, 8, 8, 8, 8, 8, 8, 8, 8, 8, 8, 8, 8, 8, 8, 8, 8, 8, 8, 8, 8, 8, 8, 8, 8, 8, 8, 8, 8, 8, 8, 8, 8, 8, 8, 8, 8]))) (.leaf [(.o (.add .i64) (.i 32) (.u (.conv .i64) (.o .sidx (.s [0, 1, 2, 2, 3, 3, 3, 3, 4, 4, 4, 4, 4, 4, 4, 4, 5, 5, 5, 5, 5, 5, 5, 5, 5, 5, 5, 5, 5, 5, 5, 5, 6, 6, 6, 6, 6, 6, 6, 6, 6, 6, 6, 6, 6, 6, 6, 6, 6, 6, 6, 6, 6, 6, 6, 6, 6, 6, 6, 6, 6, 6, 6, 6, 7, 7, 7, 7, 7, 7, 7, 7, 7, 7, 7, 7, 7, 7, 7, 7, 7, 7, 7, 7, 7, 7, 7, 7, 7, 7, 7, 7, 7, 7, 7, 7, 7, 7, 7, 7, 7, 7, 7, 7, 7, 7, 7, 7, 7, 7, 7, 7, 7, 7, 7, 7, 7, 7, 7, 7, 7, 7, 7, 7, 7, 7, 7, 7, 8, 8, 8, 8, 8, 8, 8, 8, 8, 8, 8, 8, 8, 8, 8, 8, 8, 8, 8, 8, 8, 8, 8, 8, 8, 8, 8, 8, 8, 8, 8, 8, 8, 8, 8, 8, 8, 8, 8, 8, 8, 8, 8, 8, 8, 8, 8, 8, 8, 8, 8, 8, 8, 8, 8, 8, 8, 8, 8, 8, 8, 8, 8, 8, 8, 8, 8, 8, 8, 8, 8, 8, 8, 8, 8, 8, 8, 8, 8, 8, 8, 8, 8, 8, 8, 8, 8, 8, 8, 8, 8, 8, 8, 8, 8, 8, 8, 8, 8, 8, 8, 8, 8, 8, 8, 8, 8, 8, 8, 8, 8, 8, 8, 8, 8, 8, 8, 8, 8, 8, 8, 8, 8, 8, 8, 8, 8, 8]) (.u (.conv .u8) (.o (.shr .u64) (.v 0) (.i 32))))))])))))
 (.ite (.o .le (.i 65536) (.v 0))
 (.ite (.o .le (.i 256) (.o (.shr .u64) (.v 0) (.i 16)))
 (.need (.o .le (.i 0) (.u (.conv .u8) (.o (.shr .u64) (.o (.shr .u64) (.v 0) (.i 16)) (.i 8)))) (.need (.o .lt (.u (.conv .u8) (.o (.shr .u64) (.o (.shr .u64) (.v 0) (.i 16)) (.i 8))) (.u .slen (.s [0, 1, 2, 2, 3, 3, 3, 3, 4, 4, 4, 4, 4, 4, 4, 4, 5, 5, 5, 5, 5, 5, 5, 5, 5, 5, 5, 5, 5, 5, 5, 5, 6, 6, 6, 6, 6, 6, 6, 6, 6, 6, 6, 6, 6, 6, 6, 6, 6, 6, 6, 6, 6, 6, 6, 6, 6, 6, 6, 6, 6, 6, 6, 6, 7, 7, 7, 7, 7, 7, 7, 7, 7, 7, 7, 7, 7, 7, 7, 7, 7, 7, 7, 7, 7, 7, 7, 7, 7, 7, 7, 7, 7, 7, 7, 7, 7, 7, 7, 7, 7, 7, 7, 7, 7, 7, 7, 7, 7, 7, 7, 7, 7, 7, 7, 7, 7, 7, 7, 7, 7, 7, 7, 7, 7, 7, 7, 7, 8, 8, 8, 8, 8, 8, 8, 8, 8, 8, 8, 8, 8, 8, 8, 8, 8, 8, 8, 8, 8, 8, 8, 8, 8, 8, 8, 8, 8, 8, 8, 8, 8, 8, 8, 8, 8, 8, 8, 8, 8, 8, 8, 8, 8, 8, 8, 8, 8, 8, 8, 8, 8, 8, 8, 8, 8, 8, 8, 8, 8, 8, 8, 8, 8, 8, 8, 8, 8, 8, 8, 8, 8, 8, 8, 8, 8, 8, 8, 8, 8, 8, 8, 8, 8, 8, 8, 8, 8, 8, 8, 8, 8, 8, 8, 8, 8, 8, 8, 8, 8, 8, 8, 8, 8, 8, 8, 8, 8, 8, 8, 8, 8, 8, 8, 8, 8, 8, 8, 8, 8, 8, 8, 8, 8, 8, 8, 8]))) (.leaf [(.o (.add .i64) (.i 24) (.u (.conv .i64) (.o .sidx (.s [0, 1, 2, 2, 3, 3, 3, 3, 4, 4, 4, 4, 4, 4, 4, 4, 5, 5, 5, 5, 5, 5, 5, 5, 5, 5, 5, 5, 5, 5, 5, 5, 6, 6, 6, 6, 6, 6, 6, 6, 6, 6, 6, 6, 6, 6, 6, 6, 6, 6, 6, 6, 6, 6, 6, 6, 6, 6, 6, 6, 6, 6, 6, 6, 7, 7, 7, 7, 7, 7, 7, 7, 7, 7, 7, 7, 7, 7, 7, 7, 7, 7, 7, 7, 7, 7, 7, 7, 7, 7, 7, 7, 7, 7, 7, 7, 7, 7, 7, 7, 7, 7, 7, 7, 7, 7, 7, 7, 7, 7, 7, 7, 7, 7, 7, 7, 7, 7, 7, 7, 7, 7, 7, 7, 7, 7, 7, 7, 8, 8, 8, 8, 8, 8, 8, 8, 8, 8, 8, 8, 8, 8, 8, 8, 8, 8, 8, 8, 8, 8, 8, 8, 8, 8, 8, 8, 8, 8, 8, 8, 8, 8, 8, 8, 8, 8, 8, 8, 8, 8, 8, 8, 8, 8, 8, 8, 8, 8, 8, 8, 8, 8, 8, 8, 8, 8, 8, 8, 8, 8, 8, 8, 8, 8, 8, 8, 8, 8, 8, 8, 8, 8, 8, 8, 8, 8, 8, 8, 8, 8, 8, 8, 8, 8, 8, 8, 8, 8, 8, 8, 8, 8, 8, 8, 8, 8, 8, 8, 8, 8, 8, 8, 8, 8, 8, 8, 8, 8, 8, 8, 8, 8, 8, 8, 8, 8, 8, 8, 8, 8, 8, 8, 8, 8, 8, 8]) (.u (.conv .u8) (.o (.shr .u64) (.o (.shr .u64) (.v 0) (.i 16)) (.i 8))))))])))
 (.need (.o .le (.i 0) (.u (.conv .u8) (.o (.shr .u64) (.v 0) (.i 16)))) (.need (.o .lt (.u (.conv .u8) (.o (.shr .u64) (.v 0) (.i 16))) (.u .slen (.s [0, 1, 2, 2, 3, 3, 3, 3, 4, 4, 4, 4, 4, 4, 4, 4, 5, 5, 5, 5, 5, 5, 5, 5, 5, 5, 5, 5, 5, 5, 5, 5, 6, 6, 6, 6, 6, 6, 6, 6, 6, 6, 6, 6, 6, 6, 6, 6, 6, 6, 6, 6, 6, 6, 6, 6, 6, 6, 6, 6, 6, 6, 6, 6, 7, 7, 7, 7, 7, 7, 7, 7, 7, 7, 7, 7, 7, 7, 7, 7, 7, 7, 7, 7, 7, 7, 7, 7, 7, 7, 7, 7, 7, 7, 7, 7, 7, 7, 7, 7, 7, 7, 7, 7, 7, 7, 7, 7, 7, 7, 7, 7, 7, 7, 7, 7, 7, 7, 7, 7, 7, 7, 7, 7, 7, 7, 7, 7, 8, 8, 8, 8, 8, 8, 8, 8, 8, 8, 8, 8, 8, 8, 8, 8, 8, 8, 8, 8, 8, 8, 8, 8, 8, 8, 8, 8, 8, 8, 8, 8, 8, 8, 8, 8, 8, 8, 8, 8, 8, 8, 8, 8, 8, 8, 8, 8, 8, 8, 8, 8, 8, 8, 8, 8, 8, 8, 8, 8, 8, 8, 8, 8, 8, 8, 8, 8, 8, 8, 8, 8, 8, 8, 8, 8, 8, 8, 8, 8, 8, 8, 8, 8, 8, 8, 8, 8, 8, 8, 8, 8, 8, 8, 8, 8, 8, 8, 8, 8, 8, 8, 8, 8, 8, 8, 8, 8, 8, 8, 8, 8, 8, 8, 8, 8, 8, 8, 8, 8, 8, 8, 8, 8, 8, 8, 8, 8]))) (.leaf [(.o (.add .i64) (.i 16) (.u (.conv .i64) (.o .sidx (.s [0, 1, 2, 2, 3, 3, 3, 3, 4, 4, 4, 4, 4, 4, 4, 4, 5, 5, 5, 5, 5, 5, 5, 5, 5, 5, 5, 5, 5, 5, 5, 5, 6, 6, 6, 6, 6, 6, 6, 6, 6, 6, 6, 6, 6, 6, 6, 6, 6, 6, 6, 6, 6, 6, 6, 6, 6, 6, 6, 6, 6, 6, 6, 6, 7, 7, 7, 7, 7, 7, 7, 7, 7, 7, 7, 7, 7, 7, 7, 7, 7, 7, 7, 7, 7, 7, 7, 7, 7, 7, 7, 7, 7, 7, 7, 7, 7, 7, 7, 7, 7, 7, 7, 7, 7, 7, 7, 7, 7, 7, 7, 7, 7, 7, 7, 7, 7, 7, 7, 7, 7, 7, 7, 7, 7, 7, 7, 7, 8, 8, 8, 8, 8, 8, 8, 8, 8, 8, 8, 8, 8, 8, 8, 8, 8, 8, 8, 8, 8, 8, 8, 8, 8, 8, 8, 8, 8, 8, 8, 8, 8, 8, 8, 8, 8, 8, 8, 8, 8, 8, 8, 8, 8, 8, 8, 8, 8, 8, 8, 8, 8, 8, 8, 8, 8, 8, 8, 8, 8, 8, 8, 8, 8, 8, 8, 8, 8, 8, 8, 8, 8, 8, 8, 8, 8, 8, 8, 8, 8, 8, 8, 8, 8, 8, 8, 8, 8, 8, 8, 8, 8, 8, 8, 8, 8, 8, 8, 8, 8, 8, 8, 8, 8, 8, 8, 8, 8, 8, 8, 8, 8, 8, 8, 8, 8, 8, 8, 8, 8, 8, 8, 8, 8, 8, 8, 8]) (.u (.conv .u8) (.o (.shr .u64) (.v 0) (.i 16))))))]))))
 (.ite (.o .le (.i 256) (.v 0))
 (.need (.o .le (.i 0) (.u (.conv .u8) (.o (.shr .u64) (.v 0) (.i 8)))) (.need (.o .lt (.u (.conv .u8) (.o (.shr .u64) (.v 0) (.i 8))) (.u .slen (.s [0, 1, 2, 2, 3, 3, 3, 3, 4, 4, 4, 4, 4, 4, 4, 4, 5, 5, 5, 5, 5, 5, 5, 5, 5, 5, 5, 5, 5, 5, 5, 5, 6, 6, 6, 6, 6, 6, 6, 6, 6, 6, 6, 6, 6, 6, 6, 6, 6, 6, 6, 6, 6, 6, 6, 6, 6, 6, 6, 6, 6, 6, 6, 6, 7, 7, 7, 7, 7, 7, 7, 7, 7, 7, 7, 7, 7, 7, 7, 7, 7, 7, 7, 7, 7, 7, 7, 7, 7, 7, 7, 7, 7, 7, 7, 7, 7, 7, 7, 7, 7, 7, 7, 7, 7, 7, 7, 7, 7, 7, 7, 7, 7, 7, 7, 7, 7, 7, 7, 7, 7, 7, 7, 7, 7, 7, 7, 7, 8, 8, 8, 8, 8, 8, 8, 8, 8, 8, 8, 8, 8, 8, 8, 8, 8, 8, 8, 8, 8, 8, 8, 8, 8, 8, 8, 8, 8, 8, 8, 8, 8, 8, 8, 8, 8, 8, 8, 8, 8, 8, 8, 8, 8, 8, 8, 8, 8, 8, 8, 8, 8, 8, 8, 8, 8, 8, 8, 8, 8, 8, 8, 8, 8, 8, 8, 8, 8, 8, 8, 8, 8, 8, 8, 8, 8, 8, 8, 8, 8, 8, 8, 8, 8, 8, 8, 8, 8, 8, 8, 8, 8, 8, 8, 8, 8, 8, 8, 8, 8, 8, 8, 8, 8, 8, 8, 8, 8, 8, 8, 8, 8, 8, 8, 8, 8, 8, 8, 8, 8, 8, 8, 8, 8, 8, 8, 8]))) (.leaf [(.o (.add .i64) (.i 8) (.u (.conv .i64) (.o .sidx (.s [0, 1, 2, 2, 3, 3, 3, 3, 4, 4, 4, 4, 4, 4, 4, 4, 5, 5, 5, 5, 5, 5, 5, 5, 5, 5, 5, 5, 5, 5, 5, 5, 6, 6, 6, 6, 6, 6, 6, 6, 6, 6, 6, 6, 6, 6, 6, 6, 6, 6, 6, 6, 6, 6, 6, 6, 6, 6, 6, 6, 6, 6, 6, 6, 7, 7, 7, 7, 7, 7, 7, 7, 7, 7, 7, 7, 7, 7, 7, 7, 7, 7, 7, 7, 7, 7, 7, 7, 7, 7, 7, 7, 7, 7, 7, 7, 7, 7, 7, 7, 7, 7, 7, 7, 7, 7, 7, 7, 7, 7, 7, 7, 7, 7, 7, 7, 7, 7, 7, 7, 7, 7, 7, 7, 7, 7, 7, 7, 8, 8, 8, 8, 8, 8, 8, 8, 8, 8, 8, 8, 8, 8, 8, 8, 8, 8, 8, 8, 8, 8, 8, 8, 8, 8, 8, 8, 8, 8, 8, 8, 8, 8, 8, 8, 8, 8, 8, 8, 8, 8, 8, 8, 8, 8, 8, 8, 8, 8, 8, 8, 8, 8, 8, 8, 8, 8, 8, 8, 8, 8, 8, 8, 8, 8, 8, 8, 8, 8, 8, 8, 8, 8, 8, 8, 8, 8, 8, 8, 8, 8, 8, 8, 8, 8, 8, 8, 8, 8, 8, 8, 8, 8, 8, 8, 8, 8, 8, 8, 8, 8, 8, 8, 8, 8, 8, 8, 8, 8, 8, 8, 8, 8, 8, 8, 8, 8, 8, 8, 8, 8, 8, 8, 8, 8, 8, 8]) (.u (.conv .u8) (.o (.shr .u64) (.v 0) (.i 8))))))])))
 (.need (.o .le (.i 0) (.u (.conv .u8) (.v 0))) (.need (.o .lt (.u (.conv .u8) (.v 0)) (.u .slen (.s [0, 1, 2, 2, 3, 3, 3, 3, 4, 4, 4, 4, 4, 4, 4, 4, 5, 5, 5, 5, 5, 5, 5, 5, 5, 5, 5, 5, 5, 5, 5, 5, 6, 6, 6, 6, 6, 6, 6, 6, 6, 6, 6, 6, 6, 6, 6, 6, 6, 6, 6, 6, 6, 6, 6, 6, 6, 6, 6, 6, 6, 6, 6, 6, 7, 7, 7, 7, 7, 7, 7, 7, 7, 7, 7, 7, 7, 7, 7, 7, 7, 7, 7, 7, 7, 7, 7, 7, 7, 7, 7, 7, 7, 7, 7, 7, 7, 7, 7, 7, 7, 7, 7, 7, 7, 7, 7, 7, 7, 7, 7, 7, 7, 7, 7, 7, 7, 7, 7, 7, 7, 7, 7, 7, 7, 7, 7, 7, 8, 8, 8, 8, 8, 8, 8, 8, 8, 8, 8, 8, 8, 8, 8, 8, 8, 8, 8, 8, 8, 8, 8, 8, 8, 8, 8, 8, 8, 8, 8, 8, 8, 8, 8, 8, 8, 8, 8, 8, 8, 8, 8, 8, 8, 8, 8, 8, 8, 8, 8, 8, 8, 8, 8, 8, 8, 8, 8, 8, 8, 8, 8, 8, 8, 8, 8, 8, 8, 8, 8, 8, 8, 8, 8, 8, 8, 8, 8, 8, 8, 8, 8, 8, 8, 8, 8, 8, 8, 8, 8, 8, 8, 8, 8, 8, 8, 8, 8, 8, 8, 8, 8, 8, 8, 8, 8, 8, 8, 8, 8, 8, 8, 8, 8, 8, 8, 8, 8, 8, 8, 8, 8, 8, 8, 8, 8, 8]))) (.leaf [(.o (.add .i64) (.i 0) (.u (.conv .i64) (.o .sidx (.s [0, 1, 2, 2, 3, 3, 3, 3, 4, 4, 4, 4, 4, 4, 4, 4, 5, 5, 5, 5, 5, 5, 5, 5, 5, 5, 5, 5, 5, 5, 5, 5, 6, 6, 6, 6, 6, 6, 6, 6, 6, 6, 6, 6, 6, 6, 6, 6, 6, 6, 6, 6, 6, 6, 6, 6, 6, 6, 6, 6, 6, 6, 6, 6, 7, 7, 7, 7, 7, 7, 7, 7, 7, 7, 7, 7, 7, 7, 7, 7, 7, 7, 7, 7, 7, 7, 7, 7, 7, 7, 7, 7, 7, 7, 7, 7, 7, 7, 7, 7, 7, 7, 7, 7, 7, 7, 7, 7, 7, 7, 7, 7, 7, 7, 7, 7, 7, 7, 7, 7, 7, 7, 7, 7, 7, 7, 7, 7, 8, 8, 8, 8, 8, 8, 8, 8, 8, 8, 8, 8, 8, 8, 8, 8, 8, 8, 8, 8, 8, 8, 8, 8, 8, 8, 8, 8, 8, 8, 8, 8, 8, 8, 8, 8, 8, 8, 8, 8, 8, 8, 8, 8, 8, 8, 8, 8, 8, 8, 8, 8, 8, 8, 8, 8, 8, 8, 8, 8, 8, 8, 8, 8, 8, 8, 8, 8, 8, 8, 8, 8, 8, 8, 8, 8, 8, 8, 8, 8, 8, 8, 8, 8, 8, 8, 8, 8, 8, 8, 8, 8, 8, 8, 8, 8, 8, 8, 8, 8, 8, 8, 8, 8, 8, 8, 8, 8, 8, 8, 8, 8, 8, 8, 8, 8, 8, 8, 8, 8, 8, 8, 8, 8, 8, 8, 8, 8]) (.u (.conv .u8) (.v 0)))))]))))))
noncomputable def k_bits_Len64 : Known Try.prog := known mixedOk [] (by decide) [] plTypes plOk inFuncs insOk 6 ⟨77, [(.a (.ck (.int .u64)))], (.c (.a (.ck (.int .i64))))⟩ (fun args w => Try.call77 args w) tk_bits_Len64 (by kernel_rfl)
theorem k_bits_Len64_f : k_bits_Len64.con.f = 77 := rfl
theorem k_bits_Len64_F (l : List Sc) : k_bits_Len64.F l = if l.length = 1 then tk_bits_Len64.den (gam (P := Try.prog) []) l [] else none := rfl
def tk_fault_Uptime : T (List Ex) :=
 (.ite (.o .lt (.v 1) (.i 0))
 (.leaf [(.i 0)])
 (.ite (.o .lt (.v 2) (.v 1))
 (.leaf [(.i 0)])
 (.ite (.o .lt (.i 1000000000) (.v 2))
 (.leaf [(.i 0)])
 (.loop [(.i 0), (.i 0), (.b true), (.i 0)]
 (.ite (.o .lt (.v 6) (.u .len (.v 0)))
 (.need (.o .le (.i 0) (.v 6)) (.need (.o .lt (.v 6) (.u .len (.v 0))) (.ite (.o .lt (.o .idx (.v 0) (.v 6)) (.i 0))
 (.leaf [(.i 0)])
 (.ite (.o .lt (.i 0) (.v 6))
 (.need (.o .le (.i 0) (.o (.sub .i64) (.v 6) (.i 1))) (.need (.o .lt (.o (.sub .i64) (.v 6) (.i 1)) (.u .len (.v 0))) (.ite (.o .le (.o .idx (.v 0) (.v 6)) (.o .idx (.v 0) (.o (.sub .i64) (.v 6) (.i 1))))
 (.leaf [(.i 0)])
 (.ite (.v 5)
 (.call 31 [(.v 4), (.o .idx (.v 0) (.v 6)), (.v 1), (.v 2)] 1
 (.next 0 [(.o (.add .i64) (.v 3) (.v 7)), (.o .idx (.v 0) (.v 6)), (.u .not (.v 5)), (.o (.add .i64) (.v 6) (.i 1))]))
 (.next 0 [(.v 3), (.o .idx (.v 0) (.v 6)), (.u .not (.v 5)), (.o (.add .i64) (.v 6) (.i 1))])))))
 (.ite (.v 5)
 (.call 31 [(.v 4), (.o .idx (.v 0) (.v 6)), (.v 1), (.v 2)] 1
 (.next 0 [(.o (.add .i64) (.v 3) (.v 7)), (.o .idx (.v 0) (.v 6)), (.u .not (.v 5)), (.o (.add .i64) (.v 6) (.i 1))]))
 (.next 0 [(.v 3), (.o .idx (.v 0) (.v 6)), (.u .not (.v 5)), (.o (.add .i64) (.v 6) (.i 1))]))))))
 (.ite (.v 5)
 (.call 31 [(.v 4), (.v 2), (.v 1), (.v 2)] 1
 (.leaf [(.o (.add .i64) (.v 3) (.v 7))]))
 (.leaf [(.v 3)])))))))
noncomputable def k_fault_Uptime : Known Try.prog := known mixedOk [k_fault_shared] (by decide) [⟨1800005, [(7, 0), (8, 0), (9, 0), (25, 0)], [26, 27, 28, 29, 10, 11, 30, 31, 32, 33, 34, 35, 36, 37, 38, 39, 40, 41, 42, 43, 44, 6, 45, 46, 47, 48, 49, 50, 51, 52, 53, 54, 55, 56], [], []⟩] plTypes plOk inFuncs insOk 6 ⟨18, [(.a (.row 3 [(.int .i64)] false)), (.a (.ck (.int .i64))), (.a (.ck (.int .i64)))], (.c (.a (.ck (.int .i64))))⟩ (fun args w => Try.call18 args w) tk_fault_Uptime (by kernel_rfl)
theorem k_fault_Uptime_f : k_fault_Uptime.con.f = 18 := rfl
theorem k_fault_Uptime_F (l : List Sc) : k_fault_Uptime.F l = if l.length = 3 then tk_fault_Uptime.den (gam (P := Try.prog) [k_fault_shared]) l [] else none := rfl
def tk_dist_Same : T (List Ex) :=
 (.ite (.o .eq (.v 0) (.v 6))
 (.ite (.o .eq (.v 1) (.v 7))
 (.ite (.o .eq (.v 2) (.v 8))
 (.ite (.o .eq (.v 3) (.v 9))
 (.call 39 [(.v 4), (.v 10)] 1
 (.ite (.v 12)
 (.call 39 [(.v 5), (.v 11)] 1
 (.leaf [(.v 13)]))
 (.leaf [(.b false)])))
 (.leaf [(.b false)]))
 (.leaf [(.b false)]))
 (.leaf [(.b false)]))
 (.leaf [(.b false)]))
noncomputable def k_dist_Same : Known Try.prog := known mixedOk [k_slices_Equal___int_int_] (by decide) [] plTypes plOk inFuncs insOk 6 ⟨25, [(.g [(.ck (.int .i64)), (.ck (.int .i64)), (.ck (.int .i64)), (.ck (.int .i64)), (.row 3 [(.int .i64)] false), (.row 3 [(.int .i64)] false)]), (.g [(.ck (.int .i64)), (.ck (.int .i64)), (.ck (.int .i64)), (.ck (.int .i64)), (.row 3 [(.int .i64)] false), (.row 3 [(.int .i64)] false)])], (.c (.a (.ck .bool)))⟩ (fun args w => Try.call25 args w) tk_dist_Same (by kernel_rfl)
theorem k_dist_Same_f : k_dist_Same.con.f = 25 := rfl
theorem k_dist_Same_F (l : List Sc) : k_dist_Same.F l = if l.length = 12 then tk_dist_Same.den (gam (P := Try.prog) [k_slices_Equal___int_int_]) l [] else none := rfl
def tk_names_Check : T (List Ex) :=
 (.ite (.o .seq (.v 0) (.s []))
 (.leaf [(.i 3)])
 (.ite (.o .lt (.i 24) (.u .slen (.v 0)))
 (.leaf [(.i 3)])
 (.need (.o .lt (.i 0) (.u .slen (.v 0))) (.call 40 [(.o .sidx (.v 0) (.i 0))] 1
 (.ite (.u .not (.v 1))
 (.leaf [(.i 3)])
 (.call 41 [(.v 0)] 1
 (.ite (.v 2)
 (.leaf [(.i 3)])
 (.loop [(.i 0)]
 (.ite (.o .lt (.v 3) (.u .slen (.v 0)))
 (.need (.o .le (.i 0) (.v 3)) (.need (.o .lt (.v 3) (.u .slen (.v 0))) (.call 40 [(.o .sidx (.v 0) (.v 3))] 1
 (.ite (.u .not (.v 4))
 (.ite (.o .lt (.o .sidx (.v 0) (.v 3)) (.i 48))
 (.ite (.o .ne (.o .sidx (.v 0) (.v 3)) (.i 95))
 (.leaf [(.i 3)])
 (.next 0 [(.o (.add .i64) (.v 3) (.i 1))]))
 (.ite (.o .lt (.i 57) (.o .sidx (.v 0) (.v 3)))
 (.ite (.o .ne (.o .sidx (.v 0) (.v 3)) (.i 95))
 (.leaf [(.i 3)])
 (.next 0 [(.o (.add .i64) (.v 3) (.i 1))]))
 (.next 0 [(.o (.add .i64) (.v 3) (.i 1))])))
 (.next 0 [(.o (.add .i64) (.v 3) (.i 1))])))))
 (.leaf [(.i 0)]))))))))))
noncomputable def k_names_Check : Known Try.prog := known mixedOk [k_names_letter, k_names_Keyword] (by decide) [⟨2600004, [(24, 0)], [25, 26, 3, 27, 28, 29, 4, 30, 31, 32, 33, 34, 35, 36, 37, 38, 39, 40, 41, 42, 43, 44, 2, 45], [], []⟩] plTypes plOk inFuncs insOk 6 ⟨26, [(.a (.ck .str))], (.c (.a (.ck (.int .i64))))⟩ (fun args w => Try.call26 args w) tk_names_Check (by kernel_rfl)
theorem k_names_Check_f : k_names_Check.con.f = 26 := rfl
theorem k_names_Check_F (l : List Sc) : k_names_Check.F l = if l.length = 1 then tk_names_Check.den (gam (P := Try.prog) [k_names_letter, k_names_Keyword]) l [] else none := rfl
def tk_dist_Check : T (List Ex) :=
 (.call 42 [(.v 0), (.v 1), (.v 2), (.v 3), (.v 4), (.v 5)] 1
 (.ite (.u .not (.v 6))
 (.leaf [(.i 1)])
 (.ite (.o .eq (.v 0) (.i 1))
 (.call 43 [(.i 0), (.i 1000000000), (.o .cons (.v 1) .nil)] 1
 (.ite (.u .not (.v 7))
 (.leaf [(.i 2)])
 (.leaf [(.i 0)])))
 (.ite (.o .eq (.v 0) (.i 2))
 (.call 43 [(.i 0), (.i 1000000000), (.o .cons (.v 1) (.o .cons (.v 2) .nil))] 1
 (.ite (.v 7)
 (.ite (.u .not (.o .le (.v 1) (.v 2)))
 (.leaf [(.i 2)])
 (.leaf [(.i 0)]))
 (.leaf [(.i 2)])))
 (.ite (.o .eq (.v 0) (.i 4))
 (.call 43 [(.i 1), (.i 20), (.o .cons (.v 3) .nil)] 1
 (.ite (.v 7)
 (.call 43 [(.i 0), (.i 1000000), (.o .cons (.v 1) (.o .cons (.v 2) .nil))] 1
 (.ite (.v 8)
 (.ite (.u .not (.o .le (.v 1) (.v 2)))
 (.leaf [(.i 2)])
 (.leaf [(.i 0)]))
 (.leaf [(.i 2)])))
 (.leaf [(.i 2)])))
 (.ite (.o .eq (.v 0) (.i 5))
 (.call 43 [(.i 1), (.i 1000), (.o .cons (.v 1) (.o .cons (.v 2) .nil))] 1
 (.ite (.u .not (.v 7))
 (.leaf [(.i 2)])
 (.leaf [(.i 0)])))
 (.ite (.o .eq (.v 0) (.i 3))
 (.ite (.o .ne (.u .len (.v 4)) (.u .len (.v 5)))
 (.leaf [(.i 8)])
 (.ite (.o .eq (.u .len (.v 4)) (.i 0))
 (.leaf [(.i 7)])
 (.ite (.o .lt (.i 20) (.u .len (.v 4)))
 (.leaf [(.i 6)])
 (.call 43 [(.i 0), (.i 1000000000), (.v 4)] 1
 (.ite (.v 7)
 (.call 43 [(.i 1), (.i 1000), (.v 5)] 1
 (.ite (.u .not (.v 8))
 (.leaf [(.i 2)])
 (.leaf [(.i 0)])))
 (.leaf [(.i 2)]))))))
 (.leaf [(.i 2)]))))))))
noncomputable def k_dist_Check : Known Try.prog := known mixedOk [k_dist_unused, k_dist_within] (by decide) [] plTypes plOk inFuncs insOk 6 ⟨27, [(.g [(.ck (.int .i64)), (.ck (.int .i64)), (.ck (.int .i64)), (.ck (.int .i64)), (.row 3 [(.int .i64)] false), (.row 3 [(.int .i64)] false)])], (.c (.a (.ck (.int .i64))))⟩ (fun args w => Try.call27 args w) tk_dist_Check (by kernel_rfl)
theorem k_dist_Check_f : k_dist_Check.con.f = 27 := rfl
theorem k_dist_Check_F (l : List Sc) : k_dist_Check.F l = if l.length = 6 then tk_dist_Check.den (gam (P := Try.prog) [k_dist_unused, k_dist_within]) l [] else none := rfl
def tk_simulatorref04_Check : T (List Ex) :=
 (.call 46 [(.v 0), (.v 1), (.v 2), (.v 3), (.v 4), (.v 5)] 1
 (.ite (.u .not (.v 6))
 (.leaf [(.i 1)])
 (.ite (.o .eq (.v 0) (.i 1))
 (.call 47 [(.v 1), (.i 0), (.i 1000000000)] 1
 (.ite (.u .not (.v 7))
 (.leaf [(.i 2)])
 (.leaf [(.i 0)])))
 (.ite (.o .eq (.v 0) (.i 2))
 (.call 47 [(.v 1), (.i 0), (.v 2)] 1
 (.ite (.v 7)
 (.ite (.u .not (.o .le (.v 2) (.i 1000000000)))
 (.leaf [(.i 2)])
 (.leaf [(.i 0)]))
 (.leaf [(.i 2)])))
 (.ite (.o .eq (.v 0) (.i 3))
 (.call 48 [(.v 0), (.v 1), (.v 2), (.v 3), (.v 4), (.v 5)] 1
 (.leaf [(.v 7)]))
 (.ite (.o .eq (.v 0) (.i 4))
 (.call 47 [(.v 3), (.i 1), (.i 20)] 1
 (.ite (.v 7)
 (.call 47 [(.v 1), (.i 0), (.v 2)] 1
 (.ite (.v 8)
 (.ite (.u .not (.o .le (.v 2) (.i 1000000)))
 (.leaf [(.i 2)])
 (.leaf [(.i 0)]))
 (.leaf [(.i 2)])))
 (.leaf [(.i 2)])))
 (.ite (.o .eq (.v 0) (.i 5))
 (.call 47 [(.v 1), (.i 1), (.i 1000)] 1
 (.ite (.v 7)
 (.call 47 [(.v 2), (.i 1), (.i 1000)] 1
 (.ite (.u .not (.v 8))
 (.leaf [(.i 2)])
 (.leaf [(.i 0)])))
 (.leaf [(.i 2)])))
 (.leaf [(.i 0)]))))))))
noncomputable def k_simulatorref04_Check : Known Try.prog := known mixedOk [k_simulatorref04_unused, k_simulatorref04_between, k_simulatorref04_table] (by decide) [] plTypes plOk inFuncs insOk 6 ⟨30, [(.g [(.ck (.int .i64)), (.ck (.int .i64)), (.ck (.int .i64)), (.ck (.int .i64)), (.row 3 [(.int .i64)] false), (.row 3 [(.int .i64)] false)])], (.c (.a (.ck (.int .i64))))⟩ (fun args w => Try.call30 args w) tk_simulatorref04_Check (by kernel_rfl)
theorem k_simulatorref04_Check_f : k_simulatorref04_Check.con.f = 30 := rfl
theorem k_simulatorref04_Check_F (l : List Sc) : k_simulatorref04_Check.F l = if l.length = 6 then tk_simulatorref04_Check.den (gam (P := Try.prog) [k_simulatorref04_unused, k_simulatorref04_between, k_simulatorref04_table]) l [] else none := rfl
def tk_simulatorref03_Next : T (List Ex) :=
 (.call 54 [(.v 0), (.v 1), (.v 2)] 1
 (.ite (.v 3)
 (.leaf [(.i 0), (.v 0), (.v 1), (.v 2)])
 (.call 55 [(.o (.add .u64) (.v 0) (.o (.mul .u64) (.u (.conv .u64) (.o (.add .i64) (.v 1) (.i 1))) (.i 11400714819323198485)))] 1
 (.ite (.v 2)
 (.leaf [(.o (.bxor .u64) (.i 18446744073709551615) (.v 4)), (.v 0), (.o (.add .i64) (.v 1) (.i 1)), (.v 2)])
 (.leaf [(.v 4), (.v 0), (.o (.add .i64) (.v 1) (.i 1)), (.v 2)])))))
noncomputable def k_simulatorref03_Next : Known Try.prog := known mixedOk [k_simulatorref03_ends, k_simulatorref03_Mix] (by decide) [] plTypes plOk inFuncs insOk 6 ⟨36, [(.g [(.ck (.int .u64)), (.ck (.int .i64)), (.ck .bool)])], (.t [(.a (.ck (.int .u64))), (.g [(.ck (.int .u64)), (.ck (.int .i64)), (.ck .bool)])])⟩ (fun args w => Try.call36 args w) tk_simulatorref03_Next (by kernel_rfl)
theorem k_simulatorref03_Next_f : k_simulatorref03_Next.con.f = 36 := rfl
theorem k_simulatorref03_Next_F (l : List Sc) : k_simulatorref03_Next.F l = if l.length = 3 then tk_simulatorref03_Next.den (gam (P := Try.prog) [k_simulatorref03_ends, k_simulatorref03_Mix]) l [] else none := rfl
def tk_simulatorref04_uniform : T (List Ex) :=
 (.call 56 [(.v 2), (.u (.conv .u64) (.o (.add .i64) (.o (.sub .i64) (.v 1) (.v 0)) (.i 1)))] 1
 (.leaf [(.o (.add .i64) (.v 0) (.u (.conv .i64) (.v 3)))]))
noncomputable def k_simulatorref04_uniform : Known Try.prog := known mixedOk [k_simulatorref04_Upper] (by decide) [] plTypes plOk inFuncs insOk 6 ⟨37, [(.a (.ck (.int .i64))), (.a (.ck (.int .i64))), (.a (.ck (.int .u64)))], (.c (.a (.ck (.int .i64))))⟩ (fun args w => Try.call37 args w) tk_simulatorref04_uniform (by kernel_rfl)
theorem k_simulatorref04_uniform_f : k_simulatorref04_uniform.con.f = 37 := rfl
theorem k_simulatorref04_uniform_F (l : List Sc) : k_simulatorref04_uniform.F l = if l.length = 3 then tk_simulatorref04_uniform.den (gam (P := Try.prog) [k_simulatorref04_Upper]) l [] else none := rfl
def tk_simulatorref07_Keyword : T (List Ex) :=
 (.call 62 [] 1
 (.call 61 [(.v 1), (.v 0)] 1
 (.leaf [(.o .le (.i 0) (.v 2))])))
noncomputable def k_simulatorref07_Keyword : Known Try.prog := known mixedOk [k_simulatorref07_Keywords, k_simulatorref07_Find] (by decide) [] plTypes plOk inFuncs insOk 6 ⟨45, [(.a (.ck .str))], (.c (.a (.ck .bool)))⟩ (fun args w => Try.call45 args w) tk_simulatorref07_Keyword (by kernel_rfl)
theorem k_simulatorref07_Keyword_f : k_simulatorref07_Keyword.con.f = 45 := rfl
theorem k_simulatorref07_Keyword_F (l : List Sc) : k_simulatorref07_Keyword.F l = if l.length = 1 then tk_simulatorref07_Keyword.den (gam (P := Try.prog) [k_simulatorref07_Keywords, k_simulatorref07_Find]) l [] else none := rfl
def tk_stream_number : T (List Ex) :=
 (.call 63 [(.o (.add .u64) (.v 0) (.o (.mul .u64) (.u (.conv .u64) (.v 3)) (.i 11400714819323198485)))] 1
 (.ite (.v 2)
 (.leaf [(.o (.bxor .u64) (.i 18446744073709551615) (.v 4))])
 (.leaf [(.v 4)])))
noncomputable def k_stream_number : Known Try.prog := known mixedOk [k_stream_Mix] (by decide) [] plTypes plOk inFuncs insOk 6 ⟨50, [(.g [(.ck (.int .u64)), (.ck (.int .i64)), (.ck .bool)]), (.a (.ck (.int .i64)))], (.c (.a (.ck (.int .u64))))⟩ (fun args w => Try.call50 args w) tk_stream_number (by kernel_rfl)
theorem k_stream_number_f : k_stream_number.con.f = 50 := rfl
theorem k_stream_number_F (l : List Sc) : k_stream_number.F l = if l.length = 4 then tk_stream_number.den (gam (P := Try.prog) [k_stream_Mix]) l [] else none := rfl
def tk_dist_upper : T (List Ex) :=
 (.call 64 [(.v 0), (.u (.conv .u64) (.v 1))] 2
 (.leaf [(.u (.conv .i64) (.v 2))]))
noncomputable def k_dist_upper : Known Try.prog := known mixedOk [k_bits_Mul64] (by decide) [] plTypes plOk inFuncs insOk 6 ⟨51, [(.a (.ck (.int .u64))), (.a (.ck (.int .i64)))], (.c (.a (.ck (.int .i64))))⟩ (fun args w => Try.call51 args w) tk_dist_upper (by kernel_rfl)
theorem k_dist_upper_f : k_dist_upper.con.f = 51 := rfl
theorem k_dist_upper_F (l : List Sc) : k_dist_upper.F l = if l.length = 2 then tk_dist_upper.den (gam (P := Try.prog) [k_bits_Mul64]) l [] else none := rfl
def tk_simulatorref04_tabled : T (List Ex) :=
 (.call 70 [(.v 5)] 1
 (.call 56 [(.v 6), (.u (.conv .u64) (.v 7))] 1
 (.need (.o .le (.i 0) (.u .len (.v 4))) (.need (.o .le (.u .len (.v 4)) (.u .len (.v 4))) (.need (.o .le (.u .len (.v 4)) (.i 16777216)) (.loop [(.i 0), (.u (.conv .i64) (.v 8)), (.i 0), (.o .rep (.b false) (.u .len (.v 4)))]
 (.ite (.o .lt (.v 11) (.u .len (.v 4)))
 (.loop [(.i (-1)), (.i 0)]
 (.ite (.o .lt (.v 14) (.u .len (.v 4)))
 (.need (.o .le (.i 0) (.v 14)) (.need (.o .lt (.v 14) (.u .len (.v 12))) (.ite (.u .not (.o .idx (.v 12) (.v 14)))
 (.ite (.o .lt (.v 13) (.i 0))
 (.next 1 [(.v 14), (.o (.add .i64) (.v 14) (.i 1))])
 (.need (.o .le (.i 0) (.v 14)) (.need (.o .lt (.v 14) (.u .len (.v 4))) (.need (.o .le (.i 0) (.v 13)) (.need (.o .lt (.v 13) (.u .len (.v 4))) (.ite (.o .lt (.o .idx (.v 4) (.v 14)) (.o .idx (.v 4) (.v 13)))
 (.next 1 [(.v 14), (.o (.add .i64) (.v 14) (.i 1))])
 (.next 1 [(.v 13), (.o (.add .i64) (.v 14) (.i 1))])))))))
 (.next 1 [(.v 13), (.o (.add .i64) (.v 14) (.i 1))]))))
 (.need (.o .le (.i 0) (.v 13)) (.need (.o .lt (.v 13) (.u .len (.v 12))) (.need (.o .le (.i 0) (.v 13)) (.need (.o .lt (.v 13) (.u .len (.v 5))) (.ite (.o .lt (.o (.sub .i64) (.v 10) (.o .idx (.v 5) (.v 13))) (.i 0))
 (.need (.o .le (.i 0) (.v 13)) (.need (.o .lt (.v 13) (.u .len (.v 4))) (.leaf [(.o .idx (.v 4) (.v 13))])))
 (.next 0 [(.v 13), (.o (.sub .i64) (.v 10) (.o .idx (.v 5) (.v 13))), (.o (.add .i64) (.v 11) (.i 1)), (.t .upd (.v 12) (.v 13) (.b true))]))))))))
 (.need (.o .le (.i 0) (.v 9)) (.need (.o .lt (.v 9) (.u .len (.v 4))) (.leaf [(.o .idx (.v 4) (.v 9))]))))))))))
noncomputable def k_simulatorref04_tabled : Known Try.prog := known mixedOk [k_simulatorref04_Sum, k_simulatorref04_Upper] (by decide) [⟨5700009, [(7, 0), (9, 0)], [28, 29, 30, 31, 32, 35, 36, 37, 38, 39, 40, 41, 42, 43, 44, 45, 46, 47, 48, 49, 50, 51, 52, 53, 54, 55, 56, 57, 33, 34], [], []⟩, ⟨5700005, [(7, 0), (5, 0), (8, 0)], [21, 22, 23, 24, 25, 9, 28, 29, 30, 31, 32, 35, 36, 37, 38, 39, 40, 41, 42, 43, 44, 45, 46, 47, 48, 49, 50, 51, 52, 53, 54, 55, 56, 57, 33, 34, 58, 59, 60, 61, 62, 63, 64, 65, 66, 67, 68, 69, 70, 71, 72, 73, 74, 4, 26, 27], [], [2]⟩] plTypes plOk inFuncs insOk 6 ⟨57, [(.g [(.ck (.int .i64)), (.ck (.int .i64)), (.ck (.int .i64)), (.ck (.int .i64)), (.row 3 [(.int .i64)] false), (.row 3 [(.int .i64)] false)]), (.a (.ck (.int .u64)))], (.c (.a (.ck (.int .i64))))⟩ (fun args w => Try.call57 args w) tk_simulatorref04_tabled (by kernel_rfl)
theorem k_simulatorref04_tabled_f : k_simulatorref04_tabled.con.f = 57 := rfl
theorem k_simulatorref04_tabled_F (l : List Sc) : k_simulatorref04_tabled.F l = if l.length = 7 then tk_simulatorref04_tabled.den (gam (P := Try.prog) [k_simulatorref04_Sum, k_simulatorref04_Upper]) l [] else none := rfl
def tk_cmp_Compare_int_ : T (List Ex) :=
 (.call 73 [(.v 0)] 1
 (.call 73 [(.v 1)] 1
 (.ite (.v 2)
 (.ite (.v 3)
 (.leaf [(.i 0)])
 (.leaf [(.i (-1))]))
 (.ite (.v 3)
 (.leaf [(.i 1)])
 (.ite (.o .lt (.v 0) (.v 1))
 (.leaf [(.i (-1))])
 (.ite (.o .lt (.v 1) (.v 0))
 (.leaf [(.i 1)])
 (.leaf [(.i 0)])))))))
noncomputable def k_cmp_Compare_int_ : Known Try.prog := known mixedOk [k_cmp_isNaN_int_] (by decide) [] plTypes plOk inFuncs insOk 6 ⟨67, [(.a (.ck (.int .i64))), (.a (.ck (.int .i64)))], (.c (.a (.ck (.int .i64))))⟩ (fun args w => Try.call67 args w) tk_cmp_Compare_int_ (by kernel_rfl)
theorem k_cmp_Compare_int__f : k_cmp_Compare_int_.con.f = 67 := rfl
theorem k_cmp_Compare_int__F (l : List Sc) : k_cmp_Compare_int_.F l = if l.length = 2 then tk_cmp_Compare_int_.den (gam (P := Try.prog) [k_cmp_isNaN_int_]) l [] else none := rfl
def tk_bits_LeadingZeros64 : T (List Ex) :=
 (.call 77 [(.v 0)] 1
 (.leaf [(.o (.sub .i64) (.i 64) (.v 1))]))
noncomputable def k_bits_LeadingZeros64 : Known Try.prog := known mixedOk [k_bits_Len64] (by decide) [] plTypes plOk inFuncs insOk 6 ⟨74, [(.a (.ck (.int .u64)))], (.c (.a (.ck (.int .i64))))⟩ (fun args w => Try.call74 args w) tk_bits_LeadingZeros64 (by kernel_rfl)
theorem k_bits_LeadingZeros64_f : k_bits_LeadingZeros64.con.f = 74 := rfl
theorem k_bits_LeadingZeros64_F (l : List Sc) : k_bits_LeadingZeros64.F l = if l.length = 1 then tk_bits_LeadingZeros64.den (gam (P := Try.prog) [k_bits_Len64]) l [] else none := rfl
def tk_fault_Check : T (List Ex) :=
 (.ite (.o .seq (.v 4) (.s []))
 (.call 25 [(.v 5), (.v 6), (.v 7), (.v 8), (.v 9), (.v 10), (.i 0), (.i 0), (.i 0), (.i 0), .nil, .nil] 1
 (.ite (.u .not (.v 17))
 (.leaf [(.i 1)])
 (.call 25 [(.v 11), (.v 12), (.v 13), (.v 14), (.v 15), (.v 16), (.i 0), (.i 0), (.i 0), (.i 0), .nil, .nil] 1
 (.ite (.u .not (.v 18))
 (.leaf [(.i 1)])
 (.leaf [(.i 0)])))))
 (.call 26 [(.v 4)] 1
 (.ite (.o .ne (.v 17) (.i 0))
 (.leaf [(.v 17)])
 (.call 27 [(.v 5), (.v 6), (.v 7), (.v 8), (.v 9), (.v 10)] 1
 (.ite (.o .ne (.v 18) (.i 0))
 (.leaf [(.v 18)])
 (.call 27 [(.v 11), (.v 12), (.v 13), (.v 14), (.v 15), (.v 16)] 1
 (.leaf [(.v 19)])))))))
noncomputable def k_fault_Check : Known Try.prog := known mixedOk [k_dist_Same, k_names_Check, k_dist_Check] (by decide) [] plTypes plOk inFuncs insOk 6 ⟨13, [(.g [(.ck .str), (.ck (.int .i64)), (.row 112 [(.int .i64), (.int .i64)] true), (.ck (.int .i64)), (.ck .str), (.ck (.int .i64)), (.ck (.int .i64)), (.ck (.int .i64)), (.ck (.int .i64)), (.row 3 [(.int .i64)] false), (.row 3 [(.int .i64)] false), (.ck (.int .i64)), (.ck (.int .i64)), (.ck (.int .i64)), (.ck (.int .i64)), (.row 3 [(.int .i64)] false), (.row 3 [(.int .i64)] false)])], (.c (.a (.ck (.int .i64))))⟩ (fun args w => Try.call13 args w) tk_fault_Check (by kernel_rfl)
theorem k_fault_Check_f : k_fault_Check.con.f = 13 := rfl
theorem k_fault_Check_F (l : List Sc) : k_fault_Check.F l = if l.length = 17 then tk_fault_Check.den (gam (P := Try.prog) [k_dist_Same, k_names_Check, k_dist_Check]) l [] else none := rfl
def tk_fault_ready : T (List Ex) :=
 (.call 13 [(.v 0), (.v 1), (.v 2), (.v 3), (.v 4), (.v 5), (.v 6), (.v 7), (.v 8), (.v 9), (.v 10), (.v 11), (.v 12), (.v 13), (.v 14), (.v 15), (.v 16)] 1
 (.ite (.o .ne (.v 18) (.i 0))
 (.leaf [(.v 18)])
 (.ite (.o .seq (.v 4) (.s []))
 (.leaf [(.i 15)])
 (.ite (.o .lt (.v 17) (.i 0))
 (.leaf [(.i 2)])
 (.ite (.o .lt (.i 1000000000) (.v 17))
 (.leaf [(.i 2)])
 (.leaf [(.i 0)]))))))
noncomputable def k_fault_ready : Known Try.prog := known mixedOk [k_fault_Check] (by decide) [] plTypes plOk inFuncs insOk 6 ⟨21, [(.g [(.ck .str), (.ck (.int .i64)), (.row 112 [(.int .i64), (.int .i64)] true), (.ck (.int .i64)), (.ck .str), (.ck (.int .i64)), (.ck (.int .i64)), (.ck (.int .i64)), (.ck (.int .i64)), (.row 3 [(.int .i64)] false), (.row 3 [(.int .i64)] false), (.ck (.int .i64)), (.ck (.int .i64)), (.ck (.int .i64)), (.ck (.int .i64)), (.row 3 [(.int .i64)] false), (.row 3 [(.int .i64)] false)]), (.a (.ck (.int .i64)))], (.c (.a (.ck (.int .i64))))⟩ (fun args w => Try.call21 args w) tk_fault_ready (by kernel_rfl)
theorem k_fault_ready_f : k_fault_ready.con.f = 21 := rfl
theorem k_fault_ready_F (l : List Sc) : k_fault_ready.F l = if l.length = 18 then tk_fault_ready.den (gam (P := Try.prog) [k_fault_Check]) l [] else none := rfl
def tk_simulatorref07_Check : T (List Ex) :=
 (.ite (.o .lt (.u .slen (.v 0)) (.i 1))
 (.leaf [(.i 3)])
 (.ite (.o .lt (.i 24) (.u .slen (.v 0)))
 (.leaf [(.i 3)])
 (.need (.o .lt (.i 0) (.u .slen (.v 0))) (.call 44 [(.o .sidx (.v 0) (.i 0))] 1
 (.ite (.u .not (.v 1))
 (.leaf [(.i 3)])
 (.call 45 [(.v 0)] 1
 (.ite (.v 2)
 (.leaf [(.i 3)])
 (.loop [(.i 0)]
 (.ite (.o .lt (.v 3) (.u .slen (.v 0)))
 (.need (.o .le (.i 0) (.v 3)) (.need (.o .lt (.v 3) (.u .slen (.v 0))) (.call 44 [(.o .sidx (.v 0) (.v 3))] 1
 (.ite (.u .not (.v 4))
 (.need (.o .le (.i 0) (.v 3)) (.need (.o .lt (.v 3) (.u .slen (.v 0))) (.ite (.o .ne (.o .sidx (.v 0) (.v 3)) (.i 95))
 (.need (.o .le (.i 0) (.v 3)) (.need (.o .lt (.v 3) (.u .slen (.v 0))) (.ite (.o .lt (.o .sidx (.v 0) (.v 3)) (.i 48))
 (.leaf [(.i 3)])
 (.need (.o .le (.i 0) (.v 3)) (.need (.o .lt (.v 3) (.u .slen (.v 0))) (.ite (.o .lt (.i 57) (.o .sidx (.v 0) (.v 3)))
 (.leaf [(.i 3)])
 (.next 0 [(.o (.add .i64) (.v 3) (.i 1))])))))))
 (.next 0 [(.o (.add .i64) (.v 3) (.i 1))]))))
 (.next 0 [(.o (.add .i64) (.v 3) (.i 1))])))))
 (.leaf [(.i 0)]))))))))))
noncomputable def k_simulatorref07_Check : Known Try.prog := known mixedOk [k_simulatorref07_letter, k_simulatorref07_Keyword] (by decide) [⟨2900004, [(3, 0)], [22, 23, 24, 25, 28, 29, 30, 31, 32, 33, 34, 35, 36, 37, 38, 39, 40, 41, 42, 43, 44, 45, 46, 47, 48, 49, 50, 2, 26, 27], [], []⟩] plTypes plOk inFuncs insOk 6 ⟨29, [(.a (.ck .str))], (.c (.a (.ck (.int .i64))))⟩ (fun args w => Try.call29 args w) tk_simulatorref07_Check (by kernel_rfl)
theorem k_simulatorref07_Check_f : k_simulatorref07_Check.con.f = 29 := rfl
theorem k_simulatorref07_Check_F (l : List Sc) : k_simulatorref07_Check.F l = if l.length = 1 then tk_simulatorref07_Check.den (gam (P := Try.prog) [k_simulatorref07_letter, k_simulatorref07_Keyword]) l [] else none := rfl
def tk_stream_Next : T (List Ex) :=
 (.call 49 [(.v 0), (.v 1), (.v 2)] 1
 (.ite (.v 3)
 (.leaf [(.i 0), (.v 0), (.v 1), (.v 2)])
 (.call 50 [(.v 0), (.o (.add .i64) (.v 1) (.i 1)), (.v 2), (.o (.add .i64) (.v 1) (.i 1))] 1
 (.leaf [(.v 4), (.v 0), (.o (.add .i64) (.v 1) (.i 1)), (.v 2)]))))
noncomputable def k_stream_Next : Known Try.prog := known mixedOk [k_stream_ended, k_stream_number] (by decide) [] plTypes plOk inFuncs insOk 6 ⟨33, [(.g [(.ck (.int .u64)), (.ck (.int .i64)), (.ck .bool)])], (.t [(.a (.ck (.int .u64))), (.g [(.ck (.int .u64)), (.ck (.int .i64)), (.ck .bool)])])⟩ (fun args w => Try.call33 args w) tk_stream_Next (by kernel_rfl)
theorem k_stream_Next_f : k_stream_Next.con.f = 33 := rfl
theorem k_stream_Next_F (l : List Sc) : k_stream_Next.F l = if l.length = 3 then tk_stream_Next.den (gam (P := Try.prog) [k_stream_ended, k_stream_number]) l [] else none := rfl
def tk_simulatorref04_At : T (List Ex) :=
 (.call 30 [(.v 0), (.v 1), (.v 2), (.v 3), (.v 4), (.v 5)] 1
 (.ite (.o .ne (.v 7) (.i 0))
 (.leaf [(.i 0), (.b false)])
 (.ite (.o .eq (.v 0) (.i 1))
 (.leaf [(.v 1), (.b true)])
 (.ite (.o .eq (.v 0) (.i 2))
 (.call 37 [(.v 1), (.v 2), (.v 6)] 1
 (.leaf [(.v 8), (.b true)]))
 (.ite (.o .eq (.v 0) (.i 3))
 (.call 57 [(.v 0), (.v 1), (.v 2), (.v 3), (.v 4), (.v 5), (.v 6)] 1
 (.leaf [(.v 8), (.b true)]))
 (.ite (.o .eq (.v 0) (.i 5))
 (.call 58 [(.v 1), (.v 2), (.v 6)] 1
 (.leaf [(.v 8), (.b true)]))
 (.leaf [(.i 0), (.b false)])))))))
noncomputable def k_simulatorref04_At : Known Try.prog := known mixedOk [k_simulatorref04_Check, k_simulatorref04_uniform, k_simulatorref04_tabled, k_simulatorref04_geometric] (by decide) [] plTypes plOk inFuncs insOk 6 ⟨38, [(.g [(.ck (.int .i64)), (.ck (.int .i64)), (.ck (.int .i64)), (.ck (.int .i64)), (.row 3 [(.int .i64)] false), (.row 3 [(.int .i64)] false)]), (.a (.ck (.int .u64)))], (.t [(.a (.ck (.int .i64))), (.a (.ck .bool))])⟩ (fun args w => Try.call38 args w) tk_simulatorref04_At (by kernel_rfl)
theorem k_simulatorref04_At_f : k_simulatorref04_At.con.f = 38 := rfl
theorem k_simulatorref04_At_F (l : List Sc) : k_simulatorref04_At.F l = if l.length = 7 then tk_simulatorref04_At.den (gam (P := Try.prog) [k_simulatorref04_Check, k_simulatorref04_uniform, k_simulatorref04_tabled, k_simulatorref04_geometric]) l [] else none := rfl
def tk_dist_choose : T (List Ex) :=
 (.need (.o .le (.i 0) (.u .len (.v 4))) (.need (.o .le (.u .len (.v 4)) (.i 16777216)) (.loop [(.o .rep (.i 0) (.i 0)), (.i 0)]
 (.ite (.o .lt (.v 8) (.u .len (.v 4)))
 (.need (.o .le (.u .len (.o .snoc (.v 7) (.v 8))) (.i 17592186044416)) (.next 0 [(.o .snoc (.v 7) (.v 8)), (.o (.add .i64) (.v 8) (.i 1))]))
 (.loop [(.i 0), (.i 20), (.v 7)]
 (.ite (.o .le (.v 10) (.u .len (.v 7)))
 (.loop [(.o (.add .i64) (.v 9) (.i 1)), (.v 11)]
 (.ite (.o .lt (.v 12) (.v 10))
 (.loop [(.v 12), (.v 13)]
 (.ite (.o .lt (.v 9) (.v 14))
 (.need (.o .le (.i 0) (.v 14)) (.need (.o .lt (.v 14) (.u .len (.v 15))) (.need (.o .le (.i 0) (.o (.sub .i64) (.v 14) (.i 1))) (.need (.o .lt (.o (.sub .i64) (.v 14) (.i 1)) (.u .len (.v 15))) (.need (.o .le (.i 0) (.o .idx (.v 15) (.v 14))) (.need (.o .lt (.o .idx (.v 15) (.v 14)) (.u .len (.v 4))) (.need (.o .le (.i 0) (.o .idx (.v 15) (.o (.sub .i64) (.v 14) (.i 1)))) (.need (.o .lt (.o .idx (.v 15) (.o (.sub .i64) (.v 14) (.i 1))) (.u .len (.v 4))) (.call 67 [(.o .idx (.v 4) (.o .idx (.v 15) (.v 14))), (.o .idx (.v 4) (.o .idx (.v 15) (.o (.sub .i64) (.v 14) (.i 1))))] 1
 (.ite (.o .lt (.v 16) (.i 0))
 (.need (.o .le (.i 0) (.o (.sub .i64) (.v 14) (.i 1))) (.need (.o .lt (.o (.sub .i64) (.v 14) (.i 1)) (.u .len (.v 15))) (.need (.o .le (.i 0) (.v 14)) (.need (.o .lt (.v 14) (.u .len (.v 15))) (.need (.o .le (.i 0) (.v 14)) (.need (.o .lt (.v 14) (.u .len (.v 15))) (.need (.o .le (.i 0) (.o (.sub .i64) (.v 14) (.i 1))) (.need (.o .lt (.o (.sub .i64) (.v 14) (.i 1)) (.u .len (.t .upd (.v 15) (.v 14) (.o .idx (.v 15) (.o (.sub .i64) (.v 14) (.i 1)))))) (.next 3 [(.o (.sub .i64) (.v 14) (.i 1)), (.t .upd (.t .upd (.v 15) (.v 14) (.o .idx (.v 15) (.o (.sub .i64) (.v 14) (.i 1)))) (.o (.sub .i64) (.v 14) (.i 1)) (.o .idx (.v 15) (.v 14)))])))))))))
 (.next 2 [(.o (.add .i64) (.v 12) (.i 1)), (.v 15)])))))))))))
 (.next 2 [(.o (.add .i64) (.v 12) (.i 1)), (.v 15)])))
 (.next 1 [(.v 10), (.o (.add .i64) (.v 10) (.i 20)), (.v 13)])))
 (.loop [(.o (.add .i64) (.v 9) (.i 1)), (.v 11)]
 (.ite (.o .lt (.v 12) (.u .len (.v 7)))
 (.loop [(.v 12), (.v 13)]
 (.ite (.o .lt (.v 9) (.v 14))
 (.need (.o .le (.i 0) (.v 14)) (.need (.o .lt (.v 14) (.u .len (.v 15))) (.need (.o .le (.i 0) (.o (.sub .i64) (.v 14) (.i 1))) (.need (.o .lt (.o (.sub .i64) (.v 14) (.i 1)) (.u .len (.v 15))) (.need (.o .le (.i 0) (.o .idx (.v 15) (.v 14))) (.need (.o .lt (.o .idx (.v 15) (.v 14)) (.u .len (.v 4))) (.need (.o .le (.i 0) (.o .idx (.v 15) (.o (.sub .i64) (.v 14) (.i 1)))) (.need (.o .lt (.o .idx (.v 15) (.o (.sub .i64) (.v 14) (.i 1))) (.u .len (.v 4))) (.call 67 [(.o .idx (.v 4) (.o .idx (.v 15) (.v 14))), (.o .idx (.v 4) (.o .idx (.v 15) (.o (.sub .i64) (.v 14) (.i 1))))] 1
 (.ite (.o .lt (.v 16) (.i 0))
 (.need (.o .le (.i 0) (.o (.sub .i64) (.v 14) (.i 1))) (.need (.o .lt (.o (.sub .i64) (.v 14) (.i 1)) (.u .len (.v 15))) (.need (.o .le (.i 0) (.v 14)) (.need (.o .lt (.v 14) (.u .len (.v 15))) (.need (.o .le (.i 0) (.v 14)) (.need (.o .lt (.v 14) (.u .len (.v 15))) (.need (.o .le (.i 0) (.o (.sub .i64) (.v 14) (.i 1))) (.need (.o .lt (.o (.sub .i64) (.v 14) (.i 1)) (.u .len (.t .upd (.v 15) (.v 14) (.o .idx (.v 15) (.o (.sub .i64) (.v 14) (.i 1)))))) (.next 3 [(.o (.sub .i64) (.v 14) (.i 1)), (.t .upd (.t .upd (.v 15) (.v 14) (.o .idx (.v 15) (.o (.sub .i64) (.v 14) (.i 1)))) (.o (.sub .i64) (.v 14) (.i 1)) (.o .idx (.v 15) (.v 14)))])))))))))
 (.next 2 [(.o (.add .i64) (.v 12) (.i 1)), (.v 15)])))))))))))
 (.next 2 [(.o (.add .i64) (.v 12) (.i 1)), (.v 15)])))
 (.loop [(.v 9), (.v 10), (.i 20)]
 (.ite (.o .lt (.v 16) (.u .len (.v 7)))
 (.loop [(.i 0), (.o (.mul .i64) (.i 2) (.v 16))]
 (.ite (.o .le (.v 18) (.u .len (.v 7)))
 (.fail "op")
 (.ite (.o .lt (.o (.add .i64) (.v 17) (.v 16)) (.u .len (.v 7)))
 (.fail "op")
 (.next 3 [(.v 17), (.v 18), (.o (.mul .i64) (.v 16) (.i 2))]))))
 (.call 68 [(.v 0), (.v 1), (.v 2), (.v 3), (.v 4), (.v 5)] 1
 (.call 51 [(.v 6), (.v 17)] 1
 (.loop [(.v 18), (.i 0)]
 (.ite (.o .lt (.v 20) (.u .len (.v 13)))
 (.need (.o .le (.i 0) (.v 20)) (.need (.o .lt (.v 20) (.u .len (.v 13))) (.need (.o .le (.i 0) (.o .idx (.v 13) (.v 20))) (.need (.o .lt (.o .idx (.v 13) (.v 20)) (.u .len (.v 5))) (.ite (.o .lt (.v 19) (.o .idx (.v 5) (.o .idx (.v 13) (.v 20))))
 (.need (.o .le (.i 0) (.o .idx (.v 13) (.v 20))) (.need (.o .lt (.o .idx (.v 13) (.v 20)) (.u .len (.v 4))) (.leaf [(.o .idx (.v 4) (.o .idx (.v 13) (.v 20)))])))
 (.need (.o .le (.i 0) (.o .idx (.v 13) (.v 20))) (.need (.o .lt (.o .idx (.v 13) (.v 20)) (.u .len (.v 5))) (.next 4 [(.o (.sub .i64) (.v 19) (.o .idx (.v 5) (.o .idx (.v 13) (.v 20)))), (.o (.add .i64) (.v 20) (.i 1))]))))))))
 (.leaf [(.i 0)])))))))))))))))
noncomputable def k_dist_choose : Known Try.prog := known mixedOk [k_cmp_Compare_int_, k_dist_weight, k_dist_upper] (by decide) [⟨5200010, [(7, 0), (34, 0)], [35, 36, 37, 9, 38, 39, 40, 41, 42, 43, 44, 45, 46, 47, 48, 49, 4, 50, 51, 52, 53, 54, 55, 56, 57], [], []⟩, ⟨7200009, [(7, 0), (8, 0)], [33, 34, 35, 36, 37, 38, 39, 40, 41, 42, 43, 44, 45, 46, 47, 48], [], []⟩, ⟨7200007, [(7, 0), (8, 0), (6, 0)], [28, 29, 30, 31, 32, 33, 34, 35, 36, 37, 38, 39, 40, 41, 42, 43, 44, 45, 46, 47, 48, 49, 50, 51, 9, 52, 53, 54, 55, 56, 57, 58, 59, 60, 61, 62], [], []⟩, ⟨7500004, [(9, 0)], [18, 19, 20, 21, 22, 23, 24, 25, 26, 27, 28, 29, 30, 31, 32, 33, 34, 37, 38, 39, 40, 41, 42, 43, 44, 45, 46, 47, 48, 49, 50, 51, 52, 35, 36], [], [3]⟩, ⟨7500001, [(8, 0)], [12, 13, 14, 17, 9, 18, 19, 20, 21, 22, 23, 24, 25, 26, 27, 28, 29, 30, 31, 32, 33, 34, 37, 38, 39, 40, 41, 42, 43, 44, 45, 46, 47, 48, 49, 50, 51, 52, 35, 36, 15, 16], [], [3]⟩, ⟨7200002, [(7, 0), (8, 0)], [11, 12, 13, 14, 15, 16, 17, 18, 19, 20, 21, 22], [], [3]⟩, ⟨5200003, [(5, 3), (17, 0)], [18, 19, 6, 20, 21, 22, 23, 24], [], []⟩] plTypes plOk inFuncs insOk 6 ⟨52, [(.g [(.ck (.int .i64)), (.ck (.int .i64)), (.ck (.int .i64)), (.ck (.int .i64)), (.row 3 [(.int .i64)] false), (.row 3 [(.int .i64)] false)]), (.a (.ck (.int .u64)))], (.c (.a (.ck (.int .i64))))⟩ (fun args w => Try.call52 args w) tk_dist_choose (by kernel_rfl)
theorem k_dist_choose_f : k_dist_choose.con.f = 52 := rfl
theorem k_dist_choose_F (l : List Sc) : k_dist_choose.F l = if l.length = 7 then tk_dist_choose.den (gam (P := Try.prog) [k_cmp_Compare_int_, k_dist_weight, k_dist_upper]) l [] else none := rfl
def tk_bits_Div64 : T (List Ex) :=
 (.ite (.o .eq (.v 2) (.i 0))
 (.fail "op")
 (.ite (.o .le (.v 2) (.v 0))
 (.fail "op")
 (.ite (.o .eq (.v 0) (.i 0))
 (.need (.o .ne (.v 2) (.i 0)) (.need (.o .ne (.v 2) (.i 0)) (.leaf [(.o (.quo .u64) (.v 1) (.v 2)), (.o (.rem .u64) (.v 1) (.v 2))])))
 (.call 74 [(.v 2)] 1
 (.need (.o .le (.i 0) (.u (.conv .u64) (.v 3))) (.need (.o .le (.i 0) (.u (.conv .u64) (.v 3))) (.need (.o .le (.i 0) (.o (.sub .u64) (.i 64) (.u (.conv .u64) (.v 3)))) (.need (.o .le (.i 0) (.u (.conv .u64) (.v 3))) (.need (.o .ne (.o (.shr .u64) (.o (.shl .u64) (.v 2) (.u (.conv .u64) (.v 3))) (.i 32)) (.i 0)) (.loop [(.o (.quo .u64) (.o (.bor .u64) (.o (.shl .u64) (.v 0) (.u (.conv .u64) (.v 3))) (.o (.shr .u64) (.v 1) (.o (.sub .u64) (.i 64) (.u (.conv .u64) (.v 3))))) (.o (.shr .u64) (.o (.shl .u64) (.v 2) (.u (.conv .u64) (.v 3))) (.i 32))), (.o (.sub .u64) (.o (.bor .u64) (.o (.shl .u64) (.v 0) (.u (.conv .u64) (.v 3))) (.o (.shr .u64) (.v 1) (.o (.sub .u64) (.i 64) (.u (.conv .u64) (.v 3))))) (.o (.mul .u64) (.o (.quo .u64) (.o (.bor .u64) (.o (.shl .u64) (.v 0) (.u (.conv .u64) (.v 3))) (.o (.shr .u64) (.v 1) (.o (.sub .u64) (.i 64) (.u (.conv .u64) (.v 3))))) (.o (.shr .u64) (.o (.shl .u64) (.v 2) (.u (.conv .u64) (.v 3))) (.i 32))) (.o (.shr .u64) (.o (.shl .u64) (.v 2) (.u (.conv .u64) (.v 3))) (.i 32))))]
 (.ite (.o .le (.i 4294967296) (.v 4))
 (.ite (.o .le (.i 4294967296) (.o (.add .u64) (.v 5) (.o (.shr .u64) (.o (.shl .u64) (.v 2) (.u (.conv .u64) (.v 3))) (.i 32))))
 (.need (.o .ne (.o (.shr .u64) (.o (.shl .u64) (.v 2) (.u (.conv .u64) (.v 3))) (.i 32)) (.i 0)) (.loop [(.o (.quo .u64) (.o (.sub .u64) (.o (.add .u64) (.o (.mul .u64) (.o (.bor .u64) (.o (.shl .u64) (.v 0) (.u (.conv .u64) (.v 3))) (.o (.shr .u64) (.v 1) (.o (.sub .u64) (.i 64) (.u (.conv .u64) (.v 3))))) (.i 4294967296)) (.o (.shr .u64) (.o (.shl .u64) (.v 1) (.u (.conv .u64) (.v 3))) (.i 32))) (.o (.mul .u64) (.o (.sub .u64) (.v 4) (.i 1)) (.o (.shl .u64) (.v 2) (.u (.conv .u64) (.v 3))))) (.o (.shr .u64) (.o (.shl .u64) (.v 2) (.u (.conv .u64) (.v 3))) (.i 32))), (.o (.sub .u64) (.o (.sub .u64) (.o (.add .u64) (.o (.mul .u64) (.o (.bor .u64) (.o (.shl .u64) (.v 0) (.u (.conv .u64) (.v 3))) (.o (.shr .u64) (.v 1) (.o (.sub .u64) (.i 64) (.u (.conv .u64) (.v 3))))) (.i 4294967296)) (.o (.shr .u64) (.o (.shl .u64) (.v 1) (.u (.conv .u64) (.v 3))) (.i 32))) (.o (.mul .u64) (.o (.sub .u64) (.v 4) (.i 1)) (.o (.shl .u64) (.v 2) (.u (.conv .u64) (.v 3))))) (.o (.mul .u64) (.o (.quo .u64) (.o (.sub .u64) (.o (.add .u64) (.o (.mul .u64) (.o (.bor .u64) (.o (.shl .u64) (.v 0) (.u (.conv .u64) (.v 3))) (.o (.shr .u64) (.v 1) (.o (.sub .u64) (.i 64) (.u (.conv .u64) (.v 3))))) (.i 4294967296)) (.o (.shr .u64) (.o (.shl .u64) (.v 1) (.u (.conv .u64) (.v 3))) (.i 32))) (.o (.mul .u64) (.o (.sub .u64) (.v 4) (.i 1)) (.o (.shl .u64) (.v 2) (.u (.conv .u64) (.v 3))))) (.o (.shr .u64) (.o (.shl .u64) (.v 2) (.u (.conv .u64) (.v 3))) (.i 32))) (.o (.shr .u64) (.o (.shl .u64) (.v 2) (.u (.conv .u64) (.v 3))) (.i 32))))]
 (.ite (.o .le (.i 4294967296) (.v 6))
 (.ite (.o .le (.i 4294967296) (.o (.add .u64) (.v 7) (.o (.shr .u64) (.o (.shl .u64) (.v 2) (.u (.conv .u64) (.v 3))) (.i 32))))
 (.need (.o .le (.i 0) (.u (.conv .u64) (.v 3))) (.leaf [(.o (.add .u64) (.o (.mul .u64) (.o (.sub .u64) (.v 4) (.i 1)) (.i 4294967296)) (.o (.sub .u64) (.v 6) (.i 1))), (.o (.shr .u64) (.o (.sub .u64) (.o (.add .u64) (.o (.mul .u64) (.o (.sub .u64) (.o (.add .u64) (.o (.mul .u64) (.o (.bor .u64) (.o (.shl .u64) (.v 0) (.u (.conv .u64) (.v 3))) (.o (.shr .u64) (.v 1) (.o (.sub .u64) (.i 64) (.u (.conv .u64) (.v 3))))) (.i 4294967296)) (.o (.shr .u64) (.o (.shl .u64) (.v 1) (.u (.conv .u64) (.v 3))) (.i 32))) (.o (.mul .u64) (.o (.sub .u64) (.v 4) (.i 1)) (.o (.shl .u64) (.v 2) (.u (.conv .u64) (.v 3))))) (.i 4294967296)) (.o (.band .u64) (.o (.shl .u64) (.v 1) (.u (.conv .u64) (.v 3))) (.i 4294967295))) (.o (.mul .u64) (.o (.sub .u64) (.v 6) (.i 1)) (.o (.shl .u64) (.v 2) (.u (.conv .u64) (.v 3))))) (.u (.conv .u64) (.v 3)))]))
 (.next 1 [(.o (.sub .u64) (.v 6) (.i 1)), (.o (.add .u64) (.v 7) (.o (.shr .u64) (.o (.shl .u64) (.v 2) (.u (.conv .u64) (.v 3))) (.i 32)))]))
 (.ite (.o .lt (.o (.add .u64) (.o (.mul .u64) (.i 4294967296) (.v 7)) (.o (.band .u64) (.o (.shl .u64) (.v 1) (.u (.conv .u64) (.v 3))) (.i 4294967295))) (.o (.mul .u64) (.v 6) (.o (.band .u64) (.o (.shl .u64) (.v 2) (.u (.conv .u64) (.v 3))) (.i 4294967295))))
 (.ite (.o .le (.i 4294967296) (.o (.add .u64) (.v 7) (.o (.shr .u64) (.o (.shl .u64) (.v 2) (.u (.conv .u64) (.v 3))) (.i 32))))
 (.need (.o .le (.i 0) (.u (.conv .u64) (.v 3))) (.leaf [(.o (.add .u64) (.o (.mul .u64) (.o (.sub .u64) (.v 4) (.i 1)) (.i 4294967296)) (.o (.sub .u64) (.v 6) (.i 1))), (.o (.shr .u64) (.o (.sub .u64) (.o (.add .u64) (.o (.mul .u64) (.o (.sub .u64) (.o (.add .u64) (.o (.mul .u64) (.o (.bor .u64) (.o (.shl .u64) (.v 0) (.u (.conv .u64) (.v 3))) (.o (.shr .u64) (.v 1) (.o (.sub .u64) (.i 64) (.u (.conv .u64) (.v 3))))) (.i 4294967296)) (.o (.shr .u64) (.o (.shl .u64) (.v 1) (.u (.conv .u64) (.v 3))) (.i 32))) (.o (.mul .u64) (.o (.sub .u64) (.v 4) (.i 1)) (.o (.shl .u64) (.v 2) (.u (.conv .u64) (.v 3))))) (.i 4294967296)) (.o (.band .u64) (.o (.shl .u64) (.v 1) (.u (.conv .u64) (.v 3))) (.i 4294967295))) (.o (.mul .u64) (.o (.sub .u64) (.v 6) (.i 1)) (.o (.shl .u64) (.v 2) (.u (.conv .u64) (.v 3))))) (.u (.conv .u64) (.v 3)))]))
 (.next 1 [(.o (.sub .u64) (.v 6) (.i 1)), (.o (.add .u64) (.v 7) (.o (.shr .u64) (.o (.shl .u64) (.v 2) (.u (.conv .u64) (.v 3))) (.i 32)))]))
 (.need (.o .le (.i 0) (.u (.conv .u64) (.v 3))) (.leaf [(.o (.add .u64) (.o (.mul .u64) (.o (.sub .u64) (.v 4) (.i 1)) (.i 4294967296)) (.v 6)), (.o (.shr .u64) (.o (.sub .u64) (.o (.add .u64) (.o (.mul .u64) (.o (.sub .u64) (.o (.add .u64) (.o (.mul .u64) (.o (.bor .u64) (.o (.shl .u64) (.v 0) (.u (.conv .u64) (.v 3))) (.o (.shr .u64) (.v 1) (.o (.sub .u64) (.i 64) (.u (.conv .u64) (.v 3))))) (.i 4294967296)) (.o (.shr .u64) (.o (.shl .u64) (.v 1) (.u (.conv .u64) (.v 3))) (.i 32))) (.o (.mul .u64) (.o (.sub .u64) (.v 4) (.i 1)) (.o (.shl .u64) (.v 2) (.u (.conv .u64) (.v 3))))) (.i 4294967296)) (.o (.band .u64) (.o (.shl .u64) (.v 1) (.u (.conv .u64) (.v 3))) (.i 4294967295))) (.o (.mul .u64) (.v 6) (.o (.shl .u64) (.v 2) (.u (.conv .u64) (.v 3))))) (.u (.conv .u64) (.v 3)))]))))))
 (.next 0 [(.o (.sub .u64) (.v 4) (.i 1)), (.o (.add .u64) (.v 5) (.o (.shr .u64) (.o (.shl .u64) (.v 2) (.u (.conv .u64) (.v 3))) (.i 32)))]))
 (.ite (.o .lt (.o (.add .u64) (.o (.mul .u64) (.i 4294967296) (.v 5)) (.o (.shr .u64) (.o (.shl .u64) (.v 1) (.u (.conv .u64) (.v 3))) (.i 32))) (.o (.mul .u64) (.v 4) (.o (.band .u64) (.o (.shl .u64) (.v 2) (.u (.conv .u64) (.v 3))) (.i 4294967295))))
 (.ite (.o .le (.i 4294967296) (.o (.add .u64) (.v 5) (.o (.shr .u64) (.o (.shl .u64) (.v 2) (.u (.conv .u64) (.v 3))) (.i 32))))
 (.need (.o .ne (.o (.shr .u64) (.o (.shl .u64) (.v 2) (.u (.conv .u64) (.v 3))) (.i 32)) (.i 0)) (.loop [(.o (.quo .u64) (.o (.sub .u64) (.o (.add .u64) (.o (.mul .u64) (.o (.bor .u64) (.o (.shl .u64) (.v 0) (.u (.conv .u64) (.v 3))) (.o (.shr .u64) (.v 1) (.o (.sub .u64) (.i 64) (.u (.conv .u64) (.v 3))))) (.i 4294967296)) (.o (.shr .u64) (.o (.shl .u64) (.v 1) (.u (.conv .u64) (.v 3))) (.i 32))) (.o (.mul .u64) (.o (.sub .u64) (.v 4) (.i 1)) (.o (.shl .u64) (.v 2) (.u (.conv .u64) (.v 3))))) (.o (.shr .u64) (.o (.shl .u64) (.v 2) (.u (.conv .u64) (.v 3))) (.i 32))), (.o (.sub .u64) (.o (.sub .u64) (.o (.add .u64) (.o (.mul .u64) (.o (.bor .u64) (.o (.shl .u64) (.v 0) (.u (.conv .u64) (.v 3))) (.o (.shr .u64) (.v 1) (.o (.sub .u64) (.i 64) (.u (.conv .u64) (.v 3))))) (.i 4294967296)) (.o (.shr .u64) (.o (.shl .u64) (.v 1) (.u (.conv .u64) (.v 3))) (.i 32))) (.o (.mul .u64) (.o (.sub .u64) (.v 4) (.i 1)) (.o (.shl .u64) (.v 2) (.u (.conv .u64) (.v 3))))) (.o (.mul .u64) (.o (.quo .u64) (.o (.sub .u64) (.o (.add .u64) (.o (.mul .u64) (.o (.bor .u64) (.o (.shl .u64) (.v 0) (.u (.conv .u64) (.v 3))) (.o (.shr .u64) (.v 1) (.o (.sub .u64) (.i 64) (.u (.conv .u64) (.v 3))))) (.i 4294967296)) (.o (.shr .u64) (.o (.shl .u64) (.v 1) (.u (.conv .u64) (.v 3))) (.i 32))) (.o (.mul .u64) (.o (.sub .u64) (.v 4) (.i 1)) (.o (.shl .u64) (.v 2) (.u (.conv .u64) (.v 3))))) (.o (.shr .u64) (.o (.shl .u64) (.v 2) (.u (.conv .u64) (.v 3))) (.i 32))) (.o (.shr .u64) (.o (.shl .u64) (.v 2) (.u (.conv .u64) (.v 3))) (.i 32))))]
 (.ite (.o .le (.i 4294967296) (.v 6))
 (.ite (.o .le (.i 4294967296) (.o (.add .u64) (.v 7) (.o (.shr .u64) (.o (.shl .u64) (.v 2) (.u (.conv .u64) (.v 3))) (.i 32))))
 (.need (.o .le (.i 0) (.u (.conv .u64) (.v 3))) (.leaf [(.o (.add .u64) (.o (.mul .u64) (.o (.sub .u64) (.v 4) (.i 1)) (.i 4294967296)) (.o (.sub .u64) (.v 6) (.i 1))), (.o (.shr .u64) (.o (.sub .u64) (.o (.add .u64) (.o (.mul .u64) (.o (.sub .u64) (.o (.add .u64) (.o (.mul .u64) (.o (.bor .u64) (.o (.shl .u64) (.v 0) (.u (.conv .u64) (.v 3))) (.o (.shr .u64) (.v 1) (.o (.sub .u64) (.i 64) (.u (.conv .u64) (.v 3))))) (.i 4294967296)) (.o (.shr .u64) (.o (.shl .u64) (.v 1) (.u (.conv .u64) (.v 3))) (.i 32))) (.o (.mul .u64) (.o (.sub .u64) (.v 4) (.i 1)) (.o (.shl .u64) (.v 2) (.u (.conv .u64) (.v 3))))) (.i 4294967296)) (.o (.band .u64) (.o (.shl .u64) (.v 1) (.u (.conv .u64) (.v 3))) (.i 4294967295))) (.o (.mul .u64) (.o (.sub .u64) (.v 6) (.i 1)) (.o (.shl .u64) (.v 2) (.u (.conv .u64) (.v 3))))) (.u (.conv .u64) (.v 3)))]))
 (.next 1 [(.o (.sub .u64) (.v 6) (.i 1)), (.o (.add .u64) (.v 7) (.o (.shr .u64) (.o (.shl .u64) (.v 2) (.u (.conv .u64) (.v 3))) (.i 32)))]))
 (.ite (.o .lt (.o (.add .u64) (.o (.mul .u64) (.i 4294967296) (.v 7)) (.o (.band .u64) (.o (.shl .u64) (.v 1) (.u (.conv .u64) (.v 3))) (.i 4294967295))) (.o (.mul .u64) (.v 6) (.o (.band .u64) (.o (.shl .u64) (.v 2) (.u (.conv .u64) (.v 3))) (.i 4294967295))))
 (.ite (.o .le (.i 4294967296) (.o (.add .u64) (.v 7) (.o (.shr .u64) (.o (.shl .u64) (.v 2) (.u (.conv .u64) (.v 3))) (.i 32))))
 (.need (.o .le (.i 0) (.u (.conv .u64) (.v 3))) (.leaf [(.o (.add .u64) (.o (.mul .u64) (.o (.sub .u64) (.v 4) (.i 1)) (.i 4294967296)) (.o (.sub .u64) (.v 6) (.i 1))), (.o (.shr .u64) (.o (.sub .u64) (.o (.add .u64) (.o (.mul .u64) (.o (.sub .u64) (.o (.add .u64) (.o (.mul .u64) (.o (.bor .u64) (.o (.shl .u64) (.v 0) (.u (.conv .u64) (.v 3))) (.o (.shr .u64) (.v 1) (.o (.sub .u64) (.i 64) (.u (.conv .u64) (.v 3))))) (.i 4294967296)) (.o (.shr .u64) (.o (.shl .u64) (.v 1) (.u (.conv .u64) (.v 3))) (.i 32))) (.o (.mul .u64) (.o (.sub .u64) (.v 4) (.i 1)) (.o (.shl .u64) (.v 2) (.u (.conv .u64) (.v 3))))) (.i 4294967296)) (.o (.band .u64) (.o (.shl .u64) (.v 1) (.u (.conv .u64) (.v 3))) (.i 4294967295))) (.o (.mul .u64) (.o (.sub .u64) (.v 6) (.i 1)) (.o (.shl .u64) (.v 2) (.u (.conv .u64) (.v 3))))) (.u (.conv .u64) (.v 3)))]))
 (.next 1 [(.o (.sub .u64) (.v 6) (.i 1)), (.o (.add .u64) (.v 7) (.o (.shr .u64) (.o (.shl .u64) (.v 2) (.u (.conv .u64) (.v 3))) (.i 32)))]))
 (.need (.o .le (.i 0) (.u (.conv .u64) (.v 3))) (.leaf [(.o (.add .u64) (.o (.mul .u64) (.o (.sub .u64) (.v 4) (.i 1)) (.i 4294967296)) (.v 6)), (.o (.shr .u64) (.o (.sub .u64) (.o (.add .u64) (.o (.mul .u64) (.o (.sub .u64) (.o (.add .u64) (.o (.mul .u64) (.o (.bor .u64) (.o (.shl .u64) (.v 0) (.u (.conv .u64) (.v 3))) (.o (.shr .u64) (.v 1) (.o (.sub .u64) (.i 64) (.u (.conv .u64) (.v 3))))) (.i 4294967296)) (.o (.shr .u64) (.o (.shl .u64) (.v 1) (.u (.conv .u64) (.v 3))) (.i 32))) (.o (.mul .u64) (.o (.sub .u64) (.v 4) (.i 1)) (.o (.shl .u64) (.v 2) (.u (.conv .u64) (.v 3))))) (.i 4294967296)) (.o (.band .u64) (.o (.shl .u64) (.v 1) (.u (.conv .u64) (.v 3))) (.i 4294967295))) (.o (.mul .u64) (.v 6) (.o (.shl .u64) (.v 2) (.u (.conv .u64) (.v 3))))) (.u (.conv .u64) (.v 3)))]))))))
 (.next 0 [(.o (.sub .u64) (.v 4) (.i 1)), (.o (.add .u64) (.v 5) (.o (.shr .u64) (.o (.shl .u64) (.v 2) (.u (.conv .u64) (.v 3))) (.i 32)))]))
 (.need (.o .ne (.o (.shr .u64) (.o (.shl .u64) (.v 2) (.u (.conv .u64) (.v 3))) (.i 32)) (.i 0)) (.loop [(.o (.quo .u64) (.o (.sub .u64) (.o (.add .u64) (.o (.mul .u64) (.o (.bor .u64) (.o (.shl .u64) (.v 0) (.u (.conv .u64) (.v 3))) (.o (.shr .u64) (.v 1) (.o (.sub .u64) (.i 64) (.u (.conv .u64) (.v 3))))) (.i 4294967296)) (.o (.shr .u64) (.o (.shl .u64) (.v 1) (.u (.conv .u64) (.v 3))) (.i 32))) (.o (.mul .u64) (.v 4) (.o (.shl .u64) (.v 2) (.u (.conv .u64) (.v 3))))) (.o (.shr .u64) (.o (.shl .u64) (.v 2) (.u (.conv .u64) (.v 3))) (.i 32))), (.o (.sub .u64) (.o (.sub .u64) (.o (.add .u64) (.o (.mul .u64) (.o (.bor .u64) (.o (.shl .u64) (.v 0) (.u (.conv .u64) (.v 3))) (.o (.shr .u64) (.v 1) (.o (.sub .u64) (.i 64) (.u (.conv .u64) (.v 3))))) (.i 4294967296)) (.o (.shr .u64) (.o (.shl .u64) (.v 1) (.u (.conv .u64) (.v 3))) (.i 32))) (.o (.mul .u64) (.v 4) (.o (.shl .u64) (.v 2) (.u (.conv .u64) (.v 3))))) (.o (.mul .u64) (.o (.quo .u64) (.o (.sub .u64) (.o (.add .u64) (.o (.mul .u64) (.o (.bor .u64) (.o (.shl .u64) (.v 0) (.u (.conv .u64) (.v 3))) (.o (.shr .u64) (.v 1) (.o (.sub .u64) (.i 64) (.u (.conv .u64) (.v 3))))) (.i 4294967296)) (.o (.shr .u64) (.o (.shl .u64) (.v 1) (.u (.conv .u64) (.v 3))) (.i 32))) (.o (.mul .u64) (.v 4) (.o (.shl .u64) (.v 2) (.u (.conv .u64) (.v 3))))) (.o (.shr .u64) (.o (.shl .u64) (.v 2) (.u (.conv .u64) (.v 3))) (.i 32))) (.o (.shr .u64) (.o (.shl .u64) (.v 2) (.u (.conv .u64) (.v 3))) (.i 32))))]
 (.ite (.o .le (.i 4294967296) (.v 6))
 (.ite (.o .le (.i 4294967296) (.o (.add .u64) (.v 7) (.o (.shr .u64) (.o (.shl .u64) (.v 2) (.u (.conv .u64) (.v 3))) (.i 32))))
 (.need (.o .le (.i 0) (.u (.conv .u64) (.v 3))) (.leaf [(.o (.add .u64) (.o (.mul .u64) (.v 4) (.i 4294967296)) (.o (.sub .u64) (.v 6) (.i 1))), (.o (.shr .u64) (.o (.sub .u64) (.o (.add .u64) (.o (.mul .u64) (.o (.sub .u64) (.o (.add .u64) (.o (.mul .u64) (.o (.bor .u64) (.o (.shl .u64) (.v 0) (.u (.conv .u64) (.v 3))) (.o (.shr .u64) (.v 1) (.o (.sub .u64) (.i 64) (.u (.conv .u64) (.v 3))))) (.i 4294967296)) (.o (.shr .u64) (.o (.shl .u64) (.v 1) (.u (.conv .u64) (.v 3))) (.i 32))) (.o (.mul .u64) (.v 4) (.o (.shl .u64) (.v 2) (.u (.conv .u64) (.v 3))))) (.i 4294967296)) (.o (.band .u64) (.o (.shl .u64) (.v 1) (.u (.conv .u64) (.v 3))) (.i 4294967295))) (.o (.mul .u64) (.o (.sub .u64) (.v 6) (.i 1)) (.o (.shl .u64) (.v 2) (.u (.conv .u64) (.v 3))))) (.u (.conv .u64) (.v 3)))]))
 (.next 1 [(.o (.sub .u64) (.v 6) (.i 1)), (.o (.add .u64) (.v 7) (.o (.shr .u64) (.o (.shl .u64) (.v 2) (.u (.conv .u64) (.v 3))) (.i 32)))]))
 (.ite (.o .lt (.o (.add .u64) (.o (.mul .u64) (.i 4294967296) (.v 7)) (.o (.band .u64) (.o (.shl .u64) (.v 1) (.u (.conv .u64) (.v 3))) (.i 4294967295))) (.o (.mul .u64) (.v 6) (.o (.band .u64) (.o (.shl .u64) (.v 2) (.u (.conv .u64) (.v 3))) (.i 4294967295))))
 (.ite (.o .le (.i 4294967296) (.o (.add .u64) (.v 7) (.o (.shr .u64) (.o (.shl .u64) (.v 2) (.u (.conv .u64) (.v 3))) (.i 32))))
 (.need (.o .le (.i 0) (.u (.conv .u64) (.v 3))) (.leaf [(.o (.add .u64) (.o (.mul .u64) (.v 4) (.i 4294967296)) (.o (.sub .u64) (.v 6) (.i 1))), (.o (.shr .u64) (.o (.sub .u64) (.o (.add .u64) (.o (.mul .u64) (.o (.sub .u64) (.o (.add .u64) (.o (.mul .u64) (.o (.bor .u64) (.o (.shl .u64) (.v 0) (.u (.conv .u64) (.v 3))) (.o (.shr .u64) (.v 1) (.o (.sub .u64) (.i 64) (.u (.conv .u64) (.v 3))))) (.i 4294967296)) (.o (.shr .u64) (.o (.shl .u64) (.v 1) (.u (.conv .u64) (.v 3))) (.i 32))) (.o (.mul .u64) (.v 4) (.o (.shl .u64) (.v 2) (.u (.conv .u64) (.v 3))))) (.i 4294967296)) (.o (.band .u64) (.o (.shl .u64) (.v 1) (.u (.conv .u64) (.v 3))) (.i 4294967295))) (.o (.mul .u64) (.o (.sub .u64) (.v 6) (.i 1)) (.o (.shl .u64) (.v 2) (.u (.conv .u64) (.v 3))))) (.u (.conv .u64) (.v 3)))]))
 (.next 1 [(.o (.sub .u64) (.v 6) (.i 1)), (.o (.add .u64) (.v 7) (.o (.shr .u64) (.o (.shl .u64) (.v 2) (.u (.conv .u64) (.v 3))) (.i 32)))]))
 (.need (.o .le (.i 0) (.u (.conv .u64) (.v 3))) (.leaf [(.o (.add .u64) (.o (.mul .u64) (.v 4) (.i 4294967296)) (.v 6)), (.o (.shr .u64) (.o (.sub .u64) (.o (.add .u64) (.o (.mul .u64) (.o (.sub .u64) (.o (.add .u64) (.o (.mul .u64) (.o (.bor .u64) (.o (.shl .u64) (.v 0) (.u (.conv .u64) (.v 3))) (.o (.shr .u64) (.v 1) (.o (.sub .u64) (.i 64) (.u (.conv .u64) (.v 3))))) (.i 4294967296)) (.o (.shr .u64) (.o (.shl .u64) (.v 1) (.u (.conv .u64) (.v 3))) (.i 32))) (.o (.mul .u64) (.v 4) (.o (.shl .u64) (.v 2) (.u (.conv .u64) (.v 3))))) (.i 4294967296)) (.o (.band .u64) (.o (.shl .u64) (.v 1) (.u (.conv .u64) (.v 3))) (.i 4294967295))) (.o (.mul .u64) (.v 6) (.o (.shl .u64) (.v 2) (.u (.conv .u64) (.v 3))))) (.u (.conv .u64) (.v 3)))]))))))))))))))))))
noncomputable def k_bits_Div64 : Known Try.prog := known mixedOk [k_bits_LeadingZeros64] (by decide) [⟨6900024, [(18, 0), (16, 0)], [102, 103, 104, 105, 106, 107, 108, 109, 110, 111, 112, 113, 114, 115, 116, 117, 118, 119, 120], [], []⟩, ⟨6900017, [(15, 0), (16, 0)], [67, 68, 69, 70, 71, 72, 73, 74, 75, 76, 77, 78, 79, 80, 81, 82, 83, 84, 85], [], []⟩] plTypes plOk inFuncs insOk 6 ⟨69, [(.a (.ck (.int .u64))), (.a (.ck (.int .u64))), (.a (.ck (.int .u64)))], (.t [(.a (.ck (.int .u64))), (.a (.ck (.int .u64)))])⟩ (fun args w => Try.call69 args w) tk_bits_Div64 (by kernel_rfl)
theorem k_bits_Div64_f : k_bits_Div64.con.f = 69 := rfl
theorem k_bits_Div64_F (l : List Sc) : k_bits_Div64.F l = if l.length = 3 then tk_bits_Div64.den (gam (P := Try.prog) [k_bits_LeadingZeros64]) l [] else none := rfl
def tk_simulatorref25_Check : T (List Ex) :=
 (.ite (.o .seq (.v 4) (.s []))
 (.call 28 [(.v 5), (.v 6), (.v 7), (.v 8), (.v 9), (.v 10)] 1
 (.ite (.u .not (.v 17))
 (.leaf [(.i 1)])
 (.call 28 [(.v 11), (.v 12), (.v 13), (.v 14), (.v 15), (.v 16)] 1
 (.ite (.u .not (.v 18))
 (.leaf [(.i 1)])
 (.leaf [(.i 0)])))))
 (.call 29 [(.v 4)] 1
 (.ite (.o .ne (.v 17) (.i 0))
 (.call 29 [(.v 4)] 1
 (.leaf [(.v 18)]))
 (.call 30 [(.v 5), (.v 6), (.v 7), (.v 8), (.v 9), (.v 10)] 1
 (.ite (.o .ne (.v 18) (.i 0))
 (.call 30 [(.v 5), (.v 6), (.v 7), (.v 8), (.v 9), (.v 10)] 1
 (.leaf [(.v 19)]))
 (.call 30 [(.v 11), (.v 12), (.v 13), (.v 14), (.v 15), (.v 16)] 1
 (.leaf [(.v 19)])))))))
noncomputable def k_simulatorref25_Check : Known Try.prog := known mixedOk [k_simulatorref25_zero, k_simulatorref07_Check, k_simulatorref04_Check] (by decide) [] plTypes plOk inFuncs insOk 6 ⟨14, [(.g [(.ck .str), (.ck (.int .i64)), (.row 112 [(.int .i64), (.int .i64)] true), (.ck (.int .i64)), (.ck .str), (.ck (.int .i64)), (.ck (.int .i64)), (.ck (.int .i64)), (.ck (.int .i64)), (.row 3 [(.int .i64)] false), (.row 3 [(.int .i64)] false), (.ck (.int .i64)), (.ck (.int .i64)), (.ck (.int .i64)), (.ck (.int .i64)), (.row 3 [(.int .i64)] false), (.row 3 [(.int .i64)] false)])], (.c (.a (.ck (.int .i64))))⟩ (fun args w => Try.call14 args w) tk_simulatorref25_Check (by kernel_rfl)
theorem k_simulatorref25_Check_f : k_simulatorref25_Check.con.f = 14 := rfl
theorem k_simulatorref25_Check_F (l : List Sc) : k_simulatorref25_Check.F l = if l.length = 17 then tk_simulatorref25_Check.den (gam (P := Try.prog) [k_simulatorref25_zero, k_simulatorref07_Check, k_simulatorref04_Check]) l [] else none := rfl
def tk_simulatorref25_begun : T (List Ex) :=
 (.call 14 [(.v 0), (.v 1), (.v 2), (.v 3), (.v 4), (.v 5), (.v 6), (.v 7), (.v 8), (.v 9), (.v 10), (.v 11), (.v 12), (.v 13), (.v 14), (.v 15), (.v 16)] 1
 (.ite (.o .eq (.v 17) (.i 0))
 (.ite (.o .seq (.v 4) (.s []))
 (.leaf [(.i 15)])
 (.leaf [(.v 17)]))
 (.leaf [(.v 17)])))
noncomputable def k_simulatorref25_begun : Known Try.prog := known mixedOk [k_simulatorref25_Check] (by decide) [] plTypes plOk inFuncs insOk 6 ⟨23, [(.g [(.ck .str), (.ck (.int .i64)), (.row 112 [(.int .i64), (.int .i64)] true), (.ck (.int .i64)), (.ck .str), (.ck (.int .i64)), (.ck (.int .i64)), (.ck (.int .i64)), (.ck (.int .i64)), (.row 3 [(.int .i64)] false), (.row 3 [(.int .i64)] false), (.ck (.int .i64)), (.ck (.int .i64)), (.ck (.int .i64)), (.ck (.int .i64)), (.row 3 [(.int .i64)] false), (.row 3 [(.int .i64)] false)])], (.c (.a (.ck (.int .i64))))⟩ (fun args w => Try.call23 args w) tk_simulatorref25_begun (by kernel_rfl)
theorem k_simulatorref25_begun_f : k_simulatorref25_begun.con.f = 23 := rfl
theorem k_simulatorref25_begun_F (l : List Sc) : k_simulatorref25_begun.F l = if l.length = 17 then tk_simulatorref25_begun.den (gam (P := Try.prog) [k_simulatorref25_Check]) l [] else none := rfl
def tk_simulatorref04_Draw : T (List Ex) :=
 (.call 30 [(.v 0), (.v 1), (.v 2), (.v 3), (.v 4), (.v 5)] 1
 (.ite (.o .eq (.v 9) (.i 0))
 (.call 35 [(.v 6), (.v 7), (.v 8)] 1
 (.ite (.o .ne (.v 10) (.i 0))
 (.leaf [(.i 0), (.i 0), (.i 0), (.b false), (.v 10)])
 (.ite (.o .eq (.v 0) (.i 4))
 (.ite (.o .lt (.o (.sub .i64) (.i 1000000000000) (.v 3)) (.v 7))
 (.leaf [(.i 0), (.i 0), (.i 0), (.b false), (.i 2)])
 (.loop [(.i 0), (.i 0), (.v 6), (.v 7), (.v 8)]
 (.ite (.o .lt (.v 12) (.v 3))
 (.call 36 [(.v 13), (.v 14), (.v 15)] 4
 (.ite (.o .eq (.v 0) (.i 4))
 (.call 37 [(.v 1), (.v 2), (.v 16)] 1
 (.next 0 [(.o (.add .i64) (.v 11) (.v 20)), (.o (.add .i64) (.v 12) (.i 1)), (.v 17), (.v 18), (.v 19)]))
 (.call 38 [(.v 0), (.v 1), (.v 2), (.v 3), (.v 4), (.v 5), (.v 16)] 2
 (.next 0 [(.v 20), (.o (.add .i64) (.v 12) (.i 1)), (.v 17), (.v 18), (.v 19)]))))
 (.leaf [(.v 11), (.v 13), (.v 14), (.v 15), (.i 0)]))))
 (.ite (.o .lt (.i 999999999999) (.v 7))
 (.leaf [(.i 0), (.i 0), (.i 0), (.b false), (.i 2)])
 (.loop [(.i 0), (.i 0), (.v 6), (.v 7), (.v 8)]
 (.ite (.o .lt (.v 12) (.i 1))
 (.call 36 [(.v 13), (.v 14), (.v 15)] 4
 (.ite (.o .eq (.v 0) (.i 4))
 (.call 37 [(.v 1), (.v 2), (.v 16)] 1
 (.next 0 [(.o (.add .i64) (.v 11) (.v 20)), (.o (.add .i64) (.v 12) (.i 1)), (.v 17), (.v 18), (.v 19)]))
 (.call 38 [(.v 0), (.v 1), (.v 2), (.v 3), (.v 4), (.v 5), (.v 16)] 2
 (.next 0 [(.v 20), (.o (.add .i64) (.v 12) (.i 1)), (.v 17), (.v 18), (.v 19)]))))
 (.leaf [(.v 11), (.v 13), (.v 14), (.v 15), (.i 0)])))))))
 (.ite (.o .ne (.v 9) (.i 0))
 (.leaf [(.i 0), (.i 0), (.i 0), (.b false), (.v 9)])
 (.ite (.o .eq (.v 0) (.i 4))
 (.ite (.o .lt (.o (.sub .i64) (.i 1000000000000) (.v 3)) (.v 7))
 (.leaf [(.i 0), (.i 0), (.i 0), (.b false), (.i 2)])
 (.loop [(.i 0), (.i 0), (.v 6), (.v 7), (.v 8)]
 (.ite (.o .lt (.v 11) (.v 3))
 (.call 36 [(.v 12), (.v 13), (.v 14)] 4
 (.ite (.o .eq (.v 0) (.i 4))
 (.call 37 [(.v 1), (.v 2), (.v 15)] 1
 (.next 0 [(.o (.add .i64) (.v 10) (.v 19)), (.o (.add .i64) (.v 11) (.i 1)), (.v 16), (.v 17), (.v 18)]))
 (.call 38 [(.v 0), (.v 1), (.v 2), (.v 3), (.v 4), (.v 5), (.v 15)] 2
 (.next 0 [(.v 19), (.o (.add .i64) (.v 11) (.i 1)), (.v 16), (.v 17), (.v 18)]))))
 (.leaf [(.v 10), (.v 12), (.v 13), (.v 14), (.i 0)]))))
 (.ite (.o .lt (.i 999999999999) (.v 7))
 (.leaf [(.i 0), (.i 0), (.i 0), (.b false), (.i 2)])
 (.loop [(.i 0), (.i 0), (.v 6), (.v 7), (.v 8)]
 (.ite (.o .lt (.v 11) (.i 1))
 (.call 36 [(.v 12), (.v 13), (.v 14)] 4
 (.ite (.o .eq (.v 0) (.i 4))
 (.call 37 [(.v 1), (.v 2), (.v 15)] 1
 (.next 0 [(.o (.add .i64) (.v 10) (.v 19)), (.o (.add .i64) (.v 11) (.i 1)), (.v 16), (.v 17), (.v 18)]))
 (.call 38 [(.v 0), (.v 1), (.v 2), (.v 3), (.v 4), (.v 5), (.v 15)] 2
 (.next 0 [(.v 19), (.o (.add .i64) (.v 11) (.i 1)), (.v 16), (.v 17), (.v 18)]))))
 (.leaf [(.v 10), (.v 12), (.v 13), (.v 14), (.i 0)]))))))))
noncomputable def k_simulatorref04_Draw : Known Try.prog := known mixedOk [k_simulatorref04_Check, k_simulatorref03_Check, k_simulatorref03_Next, k_simulatorref04_uniform, k_simulatorref04_At] (by decide) [⟨2400013, [(9, 0), (10, 0)], [36, 37, 38, 42, 43, 41, 44, 45, 12, 11, 46, 47, 48, 49, 50, 51, 52, 53, 54, 55, 56, 57, 59, 60, 61, 58, 62, 63, 13, 14, 64, 39, 40], [(1, (0, 0)), (1, (1, 0)), (1, (2, 0))], []⟩] plTypes plOk inFuncs insOk 6 ⟨24, [(.g [(.ck (.int .i64)), (.ck (.int .i64)), (.ck (.int .i64)), (.ck (.int .i64)), (.row 3 [(.int .i64)] false), (.row 3 [(.int .i64)] false)]), (.g [(.ck (.int .u64)), (.ck (.int .i64)), (.ck .bool)])], (.t [(.a (.ck (.int .i64))), (.g [(.ck (.int .u64)), (.ck (.int .i64)), (.ck .bool)]), (.a (.ck (.int .i64)))])⟩ (fun args w => Try.call24 args w) tk_simulatorref04_Draw (by kernel_rfl)
theorem k_simulatorref04_Draw_f : k_simulatorref04_Draw.con.f = 24 := rfl
theorem k_simulatorref04_Draw_F (l : List Sc) : k_simulatorref04_Draw.F l = if l.length = 9 then tk_simulatorref04_Draw.den (gam (P := Try.prog) [k_simulatorref04_Check, k_simulatorref03_Check, k_simulatorref03_Next, k_simulatorref04_uniform, k_simulatorref04_At]) l [] else none := rfl
def tk_dist_trials : T (List Ex) :=
 (.loop [(.i 18446744073709551615), (.i 1)]
 (.ite (.o .lt (.v 8) (.v 2))
 (.call 64 [(.v 7), (.u (.conv .u64) (.o (.sub .i64) (.v 1) (.i 1)))] 2
 (.call 69 [(.v 9), (.v 10), (.u (.conv .u64) (.v 1))] 2
 (.ite (.o .le (.v 11) (.o (.bxor .u64) (.i 18446744073709551615) (.v 6)))
 (.leaf [(.v 8)])
 (.next 0 [(.v 11), (.o (.add .i64) (.v 8) (.i 1))]))))
 (.leaf [(.v 2)])))
noncomputable def k_dist_trials : Known Try.prog := known mixedOk [k_bits_Mul64, k_bits_Div64] (by decide) [⟨5300003, [(6, 0), (7, 0)], [12, 13, 14, 15, 19, 20, 21, 22, 23, 24, 18, 25, 26, 8, 9, 28, 29, 30, 31, 32, 33, 27, 34, 35, 36, 37, 38, 39, 4, 16, 17], [], []⟩] plTypes plOk inFuncs insOk 6 ⟨53, [(.g [(.ck (.int .i64)), (.ck (.int .i64)), (.ck (.int .i64)), (.ck (.int .i64)), (.row 3 [(.int .i64)] false), (.row 3 [(.int .i64)] false)]), (.a (.ck (.int .u64)))], (.c (.a (.ck (.int .i64))))⟩ (fun args w => Try.call53 args w) tk_dist_trials (by kernel_rfl)
theorem k_dist_trials_f : k_dist_trials.con.f = 53 := rfl
theorem k_dist_trials_F (l : List Sc) : k_dist_trials.F l = if l.length = 7 then tk_dist_trials.den (gam (P := Try.prog) [k_bits_Mul64, k_bits_Div64]) l [] else none := rfl
def tk_simulatorref25_Next : T (List Ex) :=
 (.call 23 [(.v 0), (.v 1), (.v 2), (.v 3), (.v 4), (.v 5), (.v 6), (.v 7), (.v 8), (.v 9), (.v 10), (.v 11), (.v 12), (.v 13), (.v 14), (.v 15), (.v 16)] 1
 (.ite (.o .ne (.v 22) (.i 0))
 (.leaf [(.i 0), (.i 0), (.i 0), (.b false), (.v 22)])
 (.ite (.o .lt (.v 20) (.i 0))
 (.leaf [(.i 0), (.i 0), (.i 0), (.b false), (.i 2)])
 (.ite (.o .lt (.i 1000000000) (.v 20))
 (.leaf [(.i 0), (.i 0), (.i 0), (.b false), (.i 2)])
 (.ite (.v 21)
 (.call 24 [(.v 11), (.v 12), (.v 13), (.v 14), (.v 15), (.v 16), (.v 17), (.v 18), (.v 19)] 5
 (.ite (.o .ne (.v 27) (.i 0))
 (.leaf [(.i 0), (.i 0), (.i 0), (.b false), (.v 27)])
 (.leaf [(.o (.add .i64) (.v 20) (.o .max (.v 23) (.i 1))), (.v 24), (.v 25), (.v 26), (.i 0)])))
 (.call 24 [(.v 5), (.v 6), (.v 7), (.v 8), (.v 9), (.v 10), (.v 17), (.v 18), (.v 19)] 5
 (.ite (.o .ne (.v 27) (.i 0))
 (.leaf [(.i 0), (.i 0), (.i 0), (.b false), (.v 27)])
 (.leaf [(.o (.add .i64) (.v 20) (.o .max (.v 23) (.i 1))), (.v 24), (.v 25), (.v 26), (.i 0)]))))))))
noncomputable def k_simulatorref25_Next : Known Try.prog := known mixedOk [k_simulatorref25_begun, k_simulatorref04_Draw] (by decide) [] plTypes plOk inFuncs insOk 6 ⟨12, [(.g [(.ck .str), (.ck (.int .i64)), (.row 112 [(.int .i64), (.int .i64)] true), (.ck (.int .i64)), (.ck .str), (.ck (.int .i64)), (.ck (.int .i64)), (.ck (.int .i64)), (.ck (.int .i64)), (.row 3 [(.int .i64)] false), (.row 3 [(.int .i64)] false), (.ck (.int .i64)), (.ck (.int .i64)), (.ck (.int .i64)), (.ck (.int .i64)), (.row 3 [(.int .i64)] false), (.row 3 [(.int .i64)] false)]), (.g [(.ck (.int .u64)), (.ck (.int .i64)), (.ck .bool)]), (.a (.ck (.int .i64))), (.a (.ck .bool))], (.t [(.a (.ck (.int .i64))), (.g [(.ck (.int .u64)), (.ck (.int .i64)), (.ck .bool)]), (.a (.ck (.int .i64)))])⟩ (fun args w => Try.call12 args w) tk_simulatorref25_Next (by kernel_rfl)
theorem k_simulatorref25_Next_f : k_simulatorref25_Next.con.f = 12 := rfl
theorem k_simulatorref25_Next_F (l : List Sc) : k_simulatorref25_Next.F l = if l.length = 22 then tk_simulatorref25_Next.den (gam (P := Try.prog) [k_simulatorref25_begun, k_simulatorref04_Draw]) l [] else none := rfl
def tk_simulatorref25_Course : T (List Ex) :=
 (.call 23 [(.v 0), (.v 1), (.v 2), (.v 3), (.v 4), (.v 5), (.v 6), (.v 7), (.v 8), (.v 9), (.v 10), (.v 11), (.v 12), (.v 13), (.v 14), (.v 15), (.v 16)] 1
 (.ite (.o .ne (.v 21) (.i 0))
 (.leaf [.nil, (.v 21)])
 (.ite (.o .lt (.v 20) (.i 0))
 (.leaf [.nil, (.i 2)])
 (.ite (.o .lt (.i 1000000000) (.v 20))
 (.leaf [.nil, (.i 2)])
 (.loop [.nil, (.i 0), (.i 0), (.v 17), (.v 18), (.v 19)]
 (.ite (.o .le (.v 24) (.i 1000))
 (.call 12 [(.v 0), (.v 1), (.v 2), (.v 3), (.v 4), (.v 5), (.v 6), (.v 7), (.v 8), (.v 9), (.v 10), (.v 11), (.v 12), (.v 13), (.v 14), (.v 15), (.v 16), (.v 25), (.v 26), (.v 27), (.v 23), (.o .eq (.o (.rem .i64) (.v 24) (.i 2)) (.i 1))] 5
 (.ite (.o .ne (.v 32) (.i 0))
 (.leaf [.nil, (.v 32)])
 (.ite (.o .lt (.v 20) (.v 28))
 (.leaf [(.v 22), (.i 0)])
 (.need (.o .le (.u .len (.o .snoc (.v 22) (.v 28))) (.i 17592186044416)) (.next 0 [(.o .snoc (.v 22) (.v 28)), (.v 28), (.o (.add .i64) (.v 24) (.i 1)), (.v 29), (.v 30), (.v 31)])))))
 (.leaf [.nil, (.i 6)])))))))
noncomputable def k_simulatorref25_Course : Known Try.prog := known mixedOk [k_simulatorref25_begun, k_simulatorref25_Next] (by decide) [⟨1600009, [(9, 3), (10, 0), (11, 0)], [26, 27, 31, 32, 33, 34, 35, 36, 37, 30, 38, 39, 40, 13, 12, 14, 41, 42, 43, 6, 7, 44, 45, 46, 47, 48, 49, 50, 51, 52, 53, 28, 29], [(1, (0, 0)), (1, (1, 0)), (1, (2, 0))], []⟩] plTypes plOk inFuncs insOk 6 ⟨16, [(.g [(.ck .str), (.ck (.int .i64)), (.row 112 [(.int .i64), (.int .i64)] true), (.ck (.int .i64)), (.ck .str), (.ck (.int .i64)), (.ck (.int .i64)), (.ck (.int .i64)), (.ck (.int .i64)), (.row 3 [(.int .i64)] false), (.row 3 [(.int .i64)] false), (.ck (.int .i64)), (.ck (.int .i64)), (.ck (.int .i64)), (.ck (.int .i64)), (.row 3 [(.int .i64)] false), (.row 3 [(.int .i64)] false)]), (.g [(.ck (.int .u64)), (.ck (.int .i64)), (.ck .bool)]), (.a (.ck (.int .i64)))], (.t [(.a (.row 3 [(.int .i64)] false)), (.a (.ck (.int .i64)))])⟩ (fun args w => Try.call16 args w) tk_simulatorref25_Course (by kernel_rfl)
theorem k_simulatorref25_Course_f : k_simulatorref25_Course.con.f = 16 := rfl
theorem k_simulatorref25_Course_F (l : List Sc) : k_simulatorref25_Course.F l = if l.length = 21 then tk_simulatorref25_Course.den (gam (P := Try.prog) [k_simulatorref25_begun, k_simulatorref25_Next]) l [] else none := rfl
def tk_dist_At : T (List Ex) :=
 (.call 27 [(.v 0), (.v 1), (.v 2), (.v 3), (.v 4), (.v 5)] 1
 (.ite (.o .ne (.v 7) (.i 0))
 (.leaf [(.i 0), (.b false)])
 (.ite (.o .eq (.v 0) (.i 1))
 (.leaf [(.v 1), (.b true)])
 (.ite (.o .eq (.v 0) (.i 2))
 (.call 51 [(.v 6), (.o (.add .i64) (.o (.sub .i64) (.v 2) (.v 1)) (.i 1))] 1
 (.leaf [(.o (.add .i64) (.v 1) (.v 8)), (.b true)]))
 (.ite (.o .eq (.v 0) (.i 3))
 (.call 52 [(.v 0), (.v 1), (.v 2), (.v 3), (.v 4), (.v 5), (.v 6)] 1
 (.leaf [(.v 8), (.b true)]))
 (.ite (.o .eq (.v 0) (.i 5))
 (.call 53 [(.v 0), (.v 1), (.v 2), (.v 3), (.v 4), (.v 5), (.v 6)] 1
 (.leaf [(.v 8), (.b true)]))
 (.leaf [(.i 0), (.b false)])))))))
noncomputable def k_dist_At : Known Try.prog := known mixedOk [k_dist_Check, k_dist_upper, k_dist_choose, k_dist_trials] (by decide) [] plTypes plOk inFuncs insOk 6 ⟨34, [(.g [(.ck (.int .i64)), (.ck (.int .i64)), (.ck (.int .i64)), (.ck (.int .i64)), (.row 3 [(.int .i64)] false), (.row 3 [(.int .i64)] false)]), (.a (.ck (.int .u64)))], (.t [(.a (.ck (.int .i64))), (.a (.ck .bool))])⟩ (fun args w => Try.call34 args w) tk_dist_At (by kernel_rfl)
theorem k_dist_At_f : k_dist_At.con.f = 34 := rfl
theorem k_dist_At_F (l : List Sc) : k_dist_At.F l = if l.length = 7 then tk_dist_At.den (gam (P := Try.prog) [k_dist_Check, k_dist_upper, k_dist_choose, k_dist_trials]) l [] else none := rfl
def tk_dist_Draw : T (List Ex) :=
 (.call 27 [(.v 0), (.v 1), (.v 2), (.v 3), (.v 4), (.v 5)] 1
 (.ite (.o .ne (.v 9) (.i 0))
 (.leaf [(.i 0), (.i 0), (.i 0), (.b false), (.v 9)])
 (.call 32 [(.v 6), (.v 7), (.v 8)] 1
 (.ite (.o .ne (.v 10) (.i 0))
 (.leaf [(.i 0), (.i 0), (.i 0), (.b false), (.v 10)])
 (.ite (.o .eq (.v 0) (.i 4))
 (.ite (.o .lt (.o (.sub .i64) (.i 1000000000000) (.v 3)) (.v 7))
 (.leaf [(.i 0), (.i 0), (.i 0), (.b false), (.i 2)])
 (.loop [(.i 0), (.i 0), (.v 6), (.v 7), (.v 8)]
 (.ite (.o .lt (.v 12) (.v 3))
 (.call 33 [(.v 13), (.v 14), (.v 15)] 4
 (.call 34 [(.i 2), (.v 1), (.v 2), (.i 0), .nil, .nil, (.v 16)] 2
 (.next 0 [(.o (.add .i64) (.v 11) (.v 20)), (.o (.add .i64) (.v 12) (.i 1)), (.v 17), (.v 18), (.v 19)])))
 (.leaf [(.v 11), (.v 13), (.v 14), (.v 15), (.i 0)]))))
 (.ite (.o .lt (.i 999999999999) (.v 7))
 (.leaf [(.i 0), (.i 0), (.i 0), (.b false), (.i 2)])
 (.loop [(.i 0), (.i 0), (.v 6), (.v 7), (.v 8)]
 (.ite (.o .lt (.v 12) (.i 1))
 (.call 33 [(.v 13), (.v 14), (.v 15)] 4
 (.call 34 [(.v 0), (.v 1), (.v 2), (.v 3), (.v 4), (.v 5), (.v 16)] 2
 (.next 0 [(.o (.add .i64) (.v 11) (.v 20)), (.o (.add .i64) (.v 12) (.i 1)), (.v 17), (.v 18), (.v 19)])))
 (.leaf [(.v 11), (.v 13), (.v 14), (.v 15), (.i 0)])))))))))
noncomputable def k_dist_Draw : Known Try.prog := known mixedOk [k_dist_Check, k_stream_Check, k_stream_Next, k_dist_At] (by decide) [⟨2200014, [(11, 0), (45, 0)], [46, 12, 48, 49, 47, 50, 51, 53, 54, 55, 52, 56, 57, 13, 14, 58, 59, 60, 61], [(1, (0, 0)), (1, (1, 0)), (1, (2, 0))], []⟩] plTypes plOk inFuncs insOk 6 ⟨22, [(.g [(.ck (.int .i64)), (.ck (.int .i64)), (.ck (.int .i64)), (.ck (.int .i64)), (.row 3 [(.int .i64)] false), (.row 3 [(.int .i64)] false)]), (.g [(.ck (.int .u64)), (.ck (.int .i64)), (.ck .bool)])], (.t [(.a (.ck (.int .i64))), (.g [(.ck (.int .u64)), (.ck (.int .i64)), (.ck .bool)]), (.a (.ck (.int .i64)))])⟩ (fun args w => Try.call22 args w) tk_dist_Draw (by kernel_rfl)
theorem k_dist_Draw_f : k_dist_Draw.con.f = 22 := rfl
theorem k_dist_Draw_F (l : List Sc) : k_dist_Draw.F l = if l.length = 9 then tk_dist_Draw.den (gam (P := Try.prog) [k_dist_Check, k_stream_Check, k_stream_Next, k_dist_At]) l [] else none := rfl
def tk_fault_Next : T (List Ex) :=
 (.call 21 [(.v 0), (.v 1), (.v 2), (.v 3), (.v 4), (.v 5), (.v 6), (.v 7), (.v 8), (.v 9), (.v 10), (.v 11), (.v 12), (.v 13), (.v 14), (.v 15), (.v 16), (.v 20)] 1
 (.ite (.o .ne (.v 22) (.i 0))
 (.leaf [(.i 0), (.i 0), (.i 0), (.b false), (.v 22)])
 (.ite (.v 21)
 (.call 22 [(.v 11), (.v 12), (.v 13), (.v 14), (.v 15), (.v 16), (.v 17), (.v 18), (.v 19)] 5
 (.ite (.o .ne (.v 27) (.i 0))
 (.leaf [(.i 0), (.i 0), (.i 0), (.b false), (.v 27)])
 (.leaf [(.o (.add .i64) (.v 20) (.o .max (.i 1) (.v 23))), (.v 24), (.v 25), (.v 26), (.i 0)])))
 (.call 22 [(.v 5), (.v 6), (.v 7), (.v 8), (.v 9), (.v 10), (.v 17), (.v 18), (.v 19)] 5
 (.ite (.o .ne (.v 27) (.i 0))
 (.leaf [(.i 0), (.i 0), (.i 0), (.b false), (.v 27)])
 (.leaf [(.o (.add .i64) (.v 20) (.o .max (.i 1) (.v 23))), (.v 24), (.v 25), (.v 26), (.i 0)]))))))
noncomputable def k_fault_Next : Known Try.prog := known mixedOk [k_fault_ready, k_dist_Draw] (by decide) [] plTypes plOk inFuncs insOk 6 ⟨11, [(.g [(.ck .str), (.ck (.int .i64)), (.row 112 [(.int .i64), (.int .i64)] true), (.ck (.int .i64)), (.ck .str), (.ck (.int .i64)), (.ck (.int .i64)), (.ck (.int .i64)), (.ck (.int .i64)), (.row 3 [(.int .i64)] false), (.row 3 [(.int .i64)] false), (.ck (.int .i64)), (.ck (.int .i64)), (.ck (.int .i64)), (.ck (.int .i64)), (.row 3 [(.int .i64)] false), (.row 3 [(.int .i64)] false)]), (.g [(.ck (.int .u64)), (.ck (.int .i64)), (.ck .bool)]), (.a (.ck (.int .i64))), (.a (.ck .bool))], (.t [(.a (.ck (.int .i64))), (.g [(.ck (.int .u64)), (.ck (.int .i64)), (.ck .bool)]), (.a (.ck (.int .i64)))])⟩ (fun args w => Try.call11 args w) tk_fault_Next (by kernel_rfl)
theorem k_fault_Next_f : k_fault_Next.con.f = 11 := rfl
theorem k_fault_Next_F (l : List Sc) : k_fault_Next.F l = if l.length = 22 then tk_fault_Next.den (gam (P := Try.prog) [k_fault_ready, k_dist_Draw]) l [] else none := rfl
def tk_fault_Course : T (List Ex) :=
 (.call 21 [(.v 0), (.v 1), (.v 2), (.v 3), (.v 4), (.v 5), (.v 6), (.v 7), (.v 8), (.v 9), (.v 10), (.v 11), (.v 12), (.v 13), (.v 14), (.v 15), (.v 16), (.v 20)] 1
 (.ite (.o .ne (.v 21) (.i 0))
 (.leaf [.nil, (.v 21)])
 (.loop [.nil, (.i 0), (.b false), (.v 17), (.v 18), (.v 19)]
 (.call 11 [(.v 0), (.v 1), (.v 2), (.v 3), (.v 4), (.v 5), (.v 6), (.v 7), (.v 8), (.v 9), (.v 10), (.v 11), (.v 12), (.v 13), (.v 14), (.v 15), (.v 16), (.v 25), (.v 26), (.v 27), (.v 23), (.v 24)] 5
 (.ite (.o .ne (.v 32) (.i 0))
 (.leaf [.nil, (.v 32)])
 (.ite (.o .lt (.v 20) (.v 28))
 (.leaf [(.v 22), (.i 0)])
 (.ite (.o .eq (.u .len (.v 22)) (.i 1000))
 (.leaf [.nil, (.i 6)])
 (.need (.o .le (.u .len (.o .snoc (.v 22) (.v 28))) (.i 17592186044416)) (.next 0 [(.o .snoc (.v 22) (.v 28)), (.v 28), (.u .not (.v 24)), (.v 29), (.v 30), (.v 31)])))))))))
noncomputable def k_fault_Course : Known Try.prog := known mixedOk [k_fault_ready, k_fault_Next] (by decide) [⟨1500006, [(9, 3), (10, 0), (11, 0)], [22, 23, 24, 25, 26, 21, 27, 28, 29, 13, 12, 14, 31, 32, 30, 33, 6, 7, 35, 36, 37, 34, 38, 40, 41, 42, 39, 43, 44, 45, 46, 47, 48, 49, 50], [(1, (0, 0)), (1, (1, 0)), (1, (2, 0))], []⟩] plTypes plOk inFuncs insOk 6 ⟨15, [(.g [(.ck .str), (.ck (.int .i64)), (.row 112 [(.int .i64), (.int .i64)] true), (.ck (.int .i64)), (.ck .str), (.ck (.int .i64)), (.ck (.int .i64)), (.ck (.int .i64)), (.ck (.int .i64)), (.row 3 [(.int .i64)] false), (.row 3 [(.int .i64)] false), (.ck (.int .i64)), (.ck (.int .i64)), (.ck (.int .i64)), (.ck (.int .i64)), (.row 3 [(.int .i64)] false), (.row 3 [(.int .i64)] false)]), (.g [(.ck (.int .u64)), (.ck (.int .i64)), (.ck .bool)]), (.a (.ck (.int .i64)))], (.t [(.a (.row 3 [(.int .i64)] false)), (.a (.ck (.int .i64)))])⟩ (fun args w => Try.call15 args w) tk_fault_Course (by kernel_rfl)
theorem k_fault_Course_f : k_fault_Course.con.f = 15 := rfl
theorem k_fault_Course_F (l : List Sc) : k_fault_Course.F l = if l.length = 21 then tk_fault_Course.den (gam (P := Try.prog) [k_fault_ready, k_fault_Next]) l [] else none := rfl
def tk_simulatorlaw25_awake : T (List Ex) :=
 (.call 20 [(.i 7), (.i 0)] 17
 (.call 11 [(.v 0), (.v 1), (.v 2), (.v 3), (.v 4), (.v 5), (.v 6), (.v 7), (.v 8), (.v 9), (.v 10), (.v 11), (.v 12), (.v 13), (.v 14), (.v 15), (.v 16), (.i 0), (.i 0), (.b false), (.i 10), (.b false)] 5
 (.call 20 [(.i 7), (.i 0)] 17
 (.call 11 [(.v 22), (.v 23), (.v 24), (.v 25), (.v 26), (.v 27), (.v 28), (.v 29), (.v 30), (.v 31), (.v 32), (.v 33), (.v 34), (.v 35), (.v 36), (.v 37), (.v 38), (.i 0), (.i 0), (.b false), (.i 10), (.b true)] 5
 (.call 20 [(.i 7), (.i 2)] 17
 (.call 15 [(.v 44), (.v 45), (.v 46), (.v 47), (.v 48), (.v 49), (.v 50), (.v 51), (.v 52), (.v 53), (.v 54), (.v 55), (.v 56), (.v 57), (.v 58), (.v 59), (.v 60), (.i 0), (.i 0), (.b false), (.i 18)] 2
 (.call 20 [(.i 7), (.i 2)] 17
 (.call 15 [(.v 63), (.v 64), (.v 65), (.v 66), (.v 67), (.v 68), (.v 69), (.v 70), (.v 71), (.v 72), (.v 73), (.v 74), (.v 75), (.v 76), (.v 77), (.v 78), (.v 79), (.i 0), (.i 0), (.b false), (.i 6)] 2
 (.call 11 [(.s []), (.i 0), .nil, (.i 0), (.s []), (.i 0), (.i 0), (.i 0), (.i 0), .nil, .nil, (.i 0), (.i 0), (.i 0), (.i 0), .nil, .nil, (.i 0), (.i 0), (.b false), (.i 0), (.b false)] 5
 (.ite (.o .ne (.v 17) (.i 17))
 (.leaf [(.b false)])
 (.ite (.o .ne (.v 19) (.i 1))
 (.leaf [(.b false)])
 (.ite (.o .ne (.v 21) (.i 0))
 (.leaf [(.b false)])
 (.ite (.o .ne (.v 39) (.i 11))
 (.leaf [(.b false)])
 (.ite (.o .ne (.v 43) (.i 0))
 (.leaf [(.b false)])
 (.call 17 [(.v 61), (.o .cons (.i 7) (.o .cons (.i 9) (.o .cons (.i 16) (.o .cons (.i 18) .nil))))] 1
 (.ite (.u .not (.v 87))
 (.leaf [(.b false)])
 (.ite (.o .ne (.v 62) (.i 0))
 (.leaf [(.b false)])
 (.ite (.o .ne (.u .len (.v 80)) (.i 0))
 (.leaf [(.b false)])
 (.ite (.o .ne (.v 81) (.i 0))
 (.leaf [(.b false)])
 (.ite (.o .ne (.v 86) (.i 15))
 (.leaf [(.b false)])
 (.call 18 [(.o .cons (.i 7) (.o .cons (.i 9) (.o .cons (.i 16) .nil))), (.i 5), (.i 20)] 1
 (.ite (.o .eq (.v 88) (.i 9))
 (.call 18 [.nil, (.i 3), (.i 8)] 1
 (.ite (.o .eq (.v 89) (.i 5))
 (.call 18 [(.o .cons (.i 0) .nil), (.i 3), (.i 8)] 1
 (.ite (.o .eq (.v 90) (.i 0))
 (.call 13 [(.s []), (.i 0), .nil, (.i 0), (.s []), (.i 1), (.i 5), (.i 0), (.i 0), .nil, .nil, (.i 0), (.i 0), (.i 0), (.i 0), .nil, .nil] 1
 (.ite (.o .eq (.v 91) (.i 1))
 (.call 20 [(.i 1), (.i 1)] 17
 (.call 13 [(.v 92), (.v 93), (.v 94), (.v 95), (.v 96), (.v 97), (.v 98), (.v 99), (.v 100), (.v 101), (.v 102), (.v 103), (.v 104), (.v 105), (.v 106), (.v 107), (.v 108)] 1
 (.leaf [(.o .eq (.v 109) (.i 0))])))
 (.leaf [(.b false)])))
 (.leaf [(.b false)])))
 (.leaf [(.b false)])))
 (.leaf [(.b false)])))))))))))))))))))))))
noncomputable def k_simulatorlaw25_awake : Known Try.prog := known mixedOk [k_simulatorlaw25_decl, k_fault_Next, k_fault_Course, k_simulatorref25_SameInts, k_fault_Uptime, k_fault_Check] (by decide) [] plTypes plOk inFuncs insOk 6 ⟨10, [], (.c (.a (.ck .bool)))⟩ (fun args w => Try.call10 args w) tk_simulatorlaw25_awake (by kernel_rfl)
theorem k_simulatorlaw25_awake_f : k_simulatorlaw25_awake.con.f = 10 := rfl
theorem k_simulatorlaw25_awake_F (l : List Sc) : k_simulatorlaw25_awake.F l = if l.length = 0 then tk_simulatorlaw25_awake.den (gam (P := Try.prog) [k_simulatorlaw25_decl, k_fault_Next, k_fault_Course, k_simulatorref25_SameInts, k_fault_Uptime, k_fault_Check]) l [] else none := rfl
def tk_simulatorlaw25_FaultNexts : T (List Ex) :=
 (.call 9 [(.v 0), (.v 1), (.v 2), (.v 3), (.v 4), (.v 5), (.v 6), (.v 7), (.v 8), (.v 9), (.v 10), (.v 11), (.v 12), (.v 13), (.v 14), (.v 15), (.v 16)] 1
 (.ite (.u .not (.v 21))
 (.call 10 [] 1
 (.leaf [(.v 22)]))
 (.loop [(.i 0)]
 (.ite (.o .lt (.v 22) (.i 2))
 (.call 11 [(.v 0), (.v 1), (.v 2), (.v 3), (.v 4), (.v 5), (.v 6), (.v 7), (.v 8), (.v 9), (.v 10), (.v 11), (.v 12), (.v 13), (.v 14), (.v 15), (.v 16), (.v 17), (.v 18), (.v 19), (.v 20), (.o .eq (.v 22) (.i 1))] 5
 (.call 12 [(.v 0), (.v 1), (.v 2), (.v 3), (.v 4), (.v 5), (.v 6), (.v 7), (.v 8), (.v 9), (.v 10), (.v 11), (.v 12), (.v 13), (.v 14), (.v 15), (.v 16), (.v 17), (.v 18), (.v 19), (.v 20), (.o .eq (.v 22) (.i 1))] 5
 (.ite (.o .ne (.v 23) (.v 28))
 (.leaf [(.b false)])
 (.ite (.u .not (.o .and (.o .eq (.v 24) (.v 29)) (.o .and (.o .eq (.v 25) (.v 30)) (.o .and (.o .beq (.v 26) (.v 31)) (.b true)))))
 (.leaf [(.b false)])
 (.ite (.o .ne (.v 27) (.v 32))
 (.leaf [(.b false)])
 (.ite (.o .eq (.v 27) (.i 0))
 (.ite (.o .le (.v 23) (.v 20))
 (.leaf [(.b false)])
 (.next 0 [(.o (.add .i64) (.v 22) (.i 1))]))
 (.next 0 [(.o (.add .i64) (.v 22) (.i 1))])))))))
 (.call 13 [(.v 0), (.v 1), (.v 2), (.v 3), (.v 4), (.v 5), (.v 6), (.v 7), (.v 8), (.v 9), (.v 10), (.v 11), (.v 12), (.v 13), (.v 14), (.v 15), (.v 16)] 1
 (.call 14 [(.v 0), (.v 1), (.v 2), (.v 3), (.v 4), (.v 5), (.v 6), (.v 7), (.v 8), (.v 9), (.v 10), (.v 11), (.v 12), (.v 13), (.v 14), (.v 15), (.v 16)] 1
 (.ite (.o .eq (.v 23) (.v 24))
 (.call 10 [] 1
 (.leaf [(.v 25)]))
 (.leaf [(.b false)]))))))))
noncomputable def k_simulatorlaw25_FaultNexts : Known Try.prog := known mixedOk [k_simulatorlaw25_small, k_simulatorlaw25_awake, k_fault_Next, k_simulatorref25_Next, k_fault_Check, k_simulatorref25_Check] (by decide) [⟨300004, [(7, 0)], [18, 19, 23, 24, 25, 26, 27, 28, 22, 29, 30, 31, 9, 8, 10, 33, 34, 35, 36, 37, 38, 32, 39, 40, 41, 12, 11, 13, 42, 43, 44, 45, 46, 47, 48, 49, 50, 51, 52, 53, 54, 55, 56, 57, 58, 59, 60, 61, 62, 63, 6, 20, 21], [], []⟩] plTypes plOk inFuncs insOk 6 ⟨3, [(.g [(.ck .str), (.ck (.int .i64)), (.row 112 [(.int .i64), (.int .i64)] true), (.ck (.int .i64)), (.ck .str), (.ck (.int .i64)), (.ck (.int .i64)), (.ck (.int .i64)), (.ck (.int .i64)), (.row 3 [(.int .i64)] false), (.row 3 [(.int .i64)] false), (.ck (.int .i64)), (.ck (.int .i64)), (.ck (.int .i64)), (.ck (.int .i64)), (.row 3 [(.int .i64)] false), (.row 3 [(.int .i64)] false)]), (.g [(.ck (.int .u64)), (.ck (.int .i64)), (.ck .bool)]), (.a (.ck (.int .i64)))], (.c (.a (.ck .bool)))⟩ (fun args w => Try.call3 args w) tk_simulatorlaw25_FaultNexts (by kernel_rfl)
theorem k_simulatorlaw25_FaultNexts_f : k_simulatorlaw25_FaultNexts.con.f = 3 := rfl
theorem k_simulatorlaw25_FaultNexts_F (l : List Sc) : k_simulatorlaw25_FaultNexts.F l = if l.length = 21 then tk_simulatorlaw25_FaultNexts.den (gam (P := Try.prog) [k_simulatorlaw25_small, k_simulatorlaw25_awake, k_fault_Next, k_simulatorref25_Next, k_fault_Check, k_simulatorref25_Check]) l [] else none := rfl
def tk_simulatorlaw25_FaultCourses : T (List Ex) :=
 (.call 9 [(.v 0), (.v 1), (.v 2), (.v 3), (.v 4), (.v 5), (.v 6), (.v 7), (.v 8), (.v 9), (.v 10), (.v 11), (.v 12), (.v 13), (.v 14), (.v 15), (.v 16)] 1
 (.ite (.u .not (.v 21))
 (.call 10 [] 1
 (.leaf [(.v 22)]))
 (.call 15 [(.v 0), (.v 1), (.v 2), (.v 3), (.v 4), (.v 5), (.v 6), (.v 7), (.v 8), (.v 9), (.v 10), (.v 11), (.v 12), (.v 13), (.v 14), (.v 15), (.v 16), (.v 17), (.v 18), (.v 19), (.v 20)] 2
 (.call 16 [(.v 0), (.v 1), (.v 2), (.v 3), (.v 4), (.v 5), (.v 6), (.v 7), (.v 8), (.v 9), (.v 10), (.v 11), (.v 12), (.v 13), (.v 14), (.v 15), (.v 16), (.v 17), (.v 18), (.v 19), (.v 20)] 2
 (.ite (.o .eq (.v 23) (.v 25))
 (.call 17 [(.v 22), (.v 24)] 1
 (.ite (.v 26)
 (.call 10 [] 1
 (.leaf [(.v 27)]))
 (.leaf [(.b false)])))
 (.leaf [(.b false)]))))))
noncomputable def k_simulatorlaw25_FaultCourses : Known Try.prog := known mixedOk [k_simulatorlaw25_small, k_simulatorlaw25_awake, k_fault_Course, k_simulatorref25_Course, k_simulatorref25_SameInts] (by decide) [] plTypes plOk inFuncs insOk 6 ⟨4, [(.g [(.ck .str), (.ck (.int .i64)), (.row 112 [(.int .i64), (.int .i64)] true), (.ck (.int .i64)), (.ck .str), (.ck (.int .i64)), (.ck (.int .i64)), (.ck (.int .i64)), (.ck (.int .i64)), (.row 3 [(.int .i64)] false), (.row 3 [(.int .i64)] false), (.ck (.int .i64)), (.ck (.int .i64)), (.ck (.int .i64)), (.ck (.int .i64)), (.row 3 [(.int .i64)] false), (.row 3 [(.int .i64)] false)]), (.g [(.ck (.int .u64)), (.ck (.int .i64)), (.ck .bool)]), (.a (.ck (.int .i64)))], (.c (.a (.ck .bool)))⟩ (fun args w => Try.call4 args w) tk_simulatorlaw25_FaultCourses (by kernel_rfl)
theorem k_simulatorlaw25_FaultCourses_f : k_simulatorlaw25_FaultCourses.con.f = 4 := rfl
theorem k_simulatorlaw25_FaultCourses_F (l : List Sc) : k_simulatorlaw25_FaultCourses.F l = if l.length = 21 then tk_simulatorlaw25_FaultCourses.den (gam (P := Try.prog) [k_simulatorlaw25_small, k_simulatorlaw25_awake, k_fault_Course, k_simulatorref25_Course, k_simulatorref25_SameInts]) l [] else none := rfl
def tk_simulatorlaw25_FaultSteps : T (List Ex) :=
 (.call 9 [(.v 0), (.v 1), (.v 2), (.v 3), (.v 4), (.v 5), (.v 6), (.v 7), (.v 8), (.v 9), (.v 10), (.v 11), (.v 12), (.v 13), (.v 14), (.v 15), (.v 16)] 1
 (.ite (.u .not (.v 21))
 (.call 10 [] 1
 (.leaf [(.v 22)]))
 (.call 15 [(.v 0), (.v 1), (.v 2), (.v 3), (.v 4), (.v 5), (.v 6), (.v 7), (.v 8), (.v 9), (.v 10), (.v 11), (.v 12), (.v 13), (.v 14), (.v 15), (.v 16), (.v 17), (.v 18), (.v 19), (.v 20)] 2
 (.ite (.o .ne (.v 23) (.i 0))
 (.ite (.o .eq (.u .len (.v 22)) (.i 0))
 (.call 10 [] 1
 (.leaf [(.v 24)]))
 (.leaf [(.b false)]))
 (.loop [(.i 0), (.i 0), (.v 17), (.v 18), (.v 19)]
 (.ite (.o .le (.v 25) (.u .len (.v 22)))
 (.call 11 [(.v 0), (.v 1), (.v 2), (.v 3), (.v 4), (.v 5), (.v 6), (.v 7), (.v 8), (.v 9), (.v 10), (.v 11), (.v 12), (.v 13), (.v 14), (.v 15), (.v 16), (.v 26), (.v 27), (.v 28), (.v 24), (.o .eq (.o (.rem .i64) (.v 25) (.i 2)) (.i 1))] 5
 (.ite (.o .ne (.v 33) (.i 0))
 (.leaf [(.b false)])
 (.ite (.o .lt (.v 25) (.u .len (.v 22)))
 (.need (.o .le (.i 0) (.v 25)) (.need (.o .lt (.v 25) (.u .len (.v 22))) (.ite (.o .ne (.v 29) (.o .idx (.v 22) (.v 25)))
 (.leaf [(.b false)])
 (.ite (.o .lt (.v 20) (.v 29))
 (.leaf [(.b false)])
 (.ite (.o .eq (.v 25) (.u .len (.v 22)))
 (.ite (.o .le (.v 29) (.v 20))
 (.leaf [(.b false)])
 (.next 0 [(.v 29), (.o (.add .i64) (.v 25) (.i 1)), (.v 30), (.v 31), (.v 32)]))
 (.next 0 [(.v 29), (.o (.add .i64) (.v 25) (.i 1)), (.v 30), (.v 31), (.v 32)]))))))
 (.ite (.o .eq (.v 25) (.u .len (.v 22)))
 (.ite (.o .le (.v 29) (.v 20))
 (.leaf [(.b false)])
 (.next 0 [(.v 29), (.o (.add .i64) (.v 25) (.i 1)), (.v 30), (.v 31), (.v 32)]))
 (.next 0 [(.v 29), (.o (.add .i64) (.v 25) (.i 1)), (.v 30), (.v 31), (.v 32)])))))
 (.ite (.o .le (.u .len (.v 22)) (.i 1000))
 (.call 10 [] 1
 (.leaf [(.v 29)]))
 (.leaf [(.b false)]))))))))
noncomputable def k_simulatorlaw25_FaultSteps : Known Try.prog := known mixedOk [k_simulatorlaw25_small, k_simulatorlaw25_awake, k_fault_Course, k_fault_Next] (by decide) [⟨500008, [(9, 0), (10, 0)], [33, 34, 35, 36, 40, 41, 42, 43, 44, 45, 46, 39, 47, 48, 49, 12, 11, 13, 50, 51, 52, 53, 54, 55, 56, 57, 58, 59, 60, 61, 62, 63, 64, 65, 66, 67, 68, 69, 70, 71, 72, 73, 74, 75, 76, 77, 78, 79, 80, 81, 6, 82, 83, 37, 38], [(1, (0, 0)), (1, (1, 0)), (1, (2, 0))], []⟩] plTypes plOk inFuncs insOk 6 ⟨5, [(.g [(.ck .str), (.ck (.int .i64)), (.row 112 [(.int .i64), (.int .i64)] true), (.ck (.int .i64)), (.ck .str), (.ck (.int .i64)), (.ck (.int .i64)), (.ck (.int .i64)), (.ck (.int .i64)), (.row 3 [(.int .i64)] false), (.row 3 [(.int .i64)] false), (.ck (.int .i64)), (.ck (.int .i64)), (.ck (.int .i64)), (.ck (.int .i64)), (.row 3 [(.int .i64)] false), (.row 3 [(.int .i64)] false)]), (.g [(.ck (.int .u64)), (.ck (.int .i64)), (.ck .bool)]), (.a (.ck (.int .i64)))], (.c (.a (.ck .bool)))⟩ (fun args w => Try.call5 args w) tk_simulatorlaw25_FaultSteps (by kernel_rfl)
theorem k_simulatorlaw25_FaultSteps_f : k_simulatorlaw25_FaultSteps.con.f = 5 := rfl
theorem k_simulatorlaw25_FaultSteps_F (l : List Sc) : k_simulatorlaw25_FaultSteps.F l = if l.length = 21 then tk_simulatorlaw25_FaultSteps.den (gam (P := Try.prog) [k_simulatorlaw25_small, k_simulatorlaw25_awake, k_fault_Course, k_fault_Next]) l [] else none := rfl
def tk_simulatorlaw25_FaultLonger : T (List Ex) :=
 (.call 9 [(.v 0), (.v 1), (.v 2), (.v 3), (.v 4), (.v 5), (.v 6), (.v 7), (.v 8), (.v 9), (.v 10), (.v 11), (.v 12), (.v 13), (.v 14), (.v 15), (.v 16)] 1
 (.ite (.u .not (.v 22))
 (.call 10 [] 1
 (.leaf [(.v 23)]))
 (.ite (.o .lt (.v 20) (.u (.conv .i64) (.v 21)))
 (.call 10 [] 1
 (.leaf [(.v 23)]))
 (.call 15 [(.v 0), (.v 1), (.v 2), (.v 3), (.v 4), (.v 5), (.v 6), (.v 7), (.v 8), (.v 9), (.v 10), (.v 11), (.v 12), (.v 13), (.v 14), (.v 15), (.v 16), (.v 17), (.v 18), (.v 19), (.v 20)] 2
 (.call 15 [(.v 0), (.v 1), (.v 2), (.v 3), (.v 4), (.v 5), (.v 6), (.v 7), (.v 8), (.v 9), (.v 10), (.v 11), (.v 12), (.v 13), (.v 14), (.v 15), (.v 16), (.v 17), (.v 18), (.v 19), (.o (.sub .i64) (.v 20) (.u (.conv .i64) (.v 21)))] 2
 (.ite (.o .ne (.v 24) (.i 0))
 (.call 10 [] 1
 (.leaf [(.v 27)]))
 (.ite (.o .ne (.v 26) (.i 0))
 (.leaf [(.b false)])
 (.ite (.o .lt (.u .len (.v 23)) (.u .len (.v 25)))
 (.leaf [(.b false)])
 (.need (.o .le (.i 0) (.u .len (.v 25))) (.need (.o .le (.u .len (.v 25)) (.u .len (.v 23))) (.call 17 [(.t .lsub (.v 23) (.i 0) (.o (.add .i64) (.i 0) (.o (.sub .i64) (.u .len (.v 25)) (.i 0)))), (.v 25)] 1
 (.ite (.u .not (.v 27))
 (.leaf [(.b false)])
 (.loop [(.u .len (.v 25))]
 (.ite (.o .lt (.v 28) (.u .len (.v 23)))
 (.need (.o .le (.i 0) (.v 28)) (.need (.o .lt (.v 28) (.u .len (.v 23))) (.ite (.o .le (.o .idx (.v 23) (.v 28)) (.o (.sub .i64) (.v 20) (.u (.conv .i64) (.v 21))))
 (.leaf [(.b false)])
 (.next 0 [(.o (.add .i64) (.v 28) (.i 1))]))))
 (.call 10 [] 1
 (.leaf [(.v 29)]))))))))))))))))
noncomputable def k_simulatorlaw25_FaultLonger : Known Try.prog := known mixedOk [k_simulatorlaw25_small, k_simulatorlaw25_awake, k_fault_Course, k_simulatorref25_SameInts] (by decide) [⟨600010, [(13, 0)], [64, 65, 66, 67, 70, 71, 72, 73, 74, 75, 76, 77, 78, 8, 68, 69], [], []⟩] plTypes plOk inFuncs insOk 6 ⟨6, [(.g [(.ck .str), (.ck (.int .i64)), (.row 112 [(.int .i64), (.int .i64)] true), (.ck (.int .i64)), (.ck .str), (.ck (.int .i64)), (.ck (.int .i64)), (.ck (.int .i64)), (.ck (.int .i64)), (.row 3 [(.int .i64)] false), (.row 3 [(.int .i64)] false), (.ck (.int .i64)), (.ck (.int .i64)), (.ck (.int .i64)), (.ck (.int .i64)), (.row 3 [(.int .i64)] false), (.row 3 [(.int .i64)] false)]), (.g [(.ck (.int .u64)), (.ck (.int .i64)), (.ck .bool)]), (.a (.ck (.int .i64))), (.a (.ck (.int .u8)))], (.c (.a (.ck .bool)))⟩ (fun args w => Try.call6 args w) tk_simulatorlaw25_FaultLonger (by kernel_rfl)
theorem k_simulatorlaw25_FaultLonger_f : k_simulatorlaw25_FaultLonger.con.f = 6 := rfl
theorem k_simulatorlaw25_FaultLonger_F (l : List Sc) : k_simulatorlaw25_FaultLonger.F l = if l.length = 22 then tk_simulatorlaw25_FaultLonger.den (gam (P := Try.prog) [k_simulatorlaw25_small, k_simulatorlaw25_awake, k_fault_Course, k_simulatorref25_SameInts]) l [] else none := rfl
def tk_simulatorlaw25_FaultUptimes : T (List Ex) :=
 (.ite (.o .lt (.i 300) (.u .len (.v 0)))
 (.call 10 [] 1
 (.leaf [(.v 3)]))
 (.call 18 [(.v 0), (.v 1), (.v 2)] 1
 (.call 19 [(.v 0), (.v 1), (.v 2)] 1
 (.ite (.o .eq (.v 3) (.v 4))
 (.call 10 [] 1
 (.leaf [(.v 5)]))
 (.leaf [(.b false)])))))
noncomputable def k_simulatorlaw25_FaultUptimes : Known Try.prog := known mixedOk [k_simulatorlaw25_awake, k_fault_Uptime, k_simulatorref25_Uptime] (by decide) [] plTypes plOk inFuncs insOk 6 ⟨7, [(.a (.row 3 [(.int .i64)] false)), (.a (.ck (.int .i64))), (.a (.ck (.int .i64)))], (.c (.a (.ck .bool)))⟩ (fun args w => Try.call7 args w) tk_simulatorlaw25_FaultUptimes (by kernel_rfl)
theorem k_simulatorlaw25_FaultUptimes_f : k_simulatorlaw25_FaultUptimes.con.f = 7 := rfl
theorem k_simulatorlaw25_FaultUptimes_F (l : List Sc) : k_simulatorlaw25_FaultUptimes.F l = if l.length = 3 then tk_simulatorlaw25_FaultUptimes.den (gam (P := Try.prog) [k_simulatorlaw25_awake, k_fault_Uptime, k_simulatorref25_Uptime]) l [] else none := rfl
def tk_simulatorlaw25_FaultAdds : T (List Ex) :=
 (.ite (.o .lt (.i 300) (.u .len (.v 0)))
 (.call 10 [] 1
 (.leaf [(.v 4)]))
 (.ite (.o .lt (.v 1) (.i 0))
 (.call 10 [] 1
 (.leaf [(.v 4)]))
 (.ite (.o .lt (.i 1000000000) (.v 1))
 (.call 10 [] 1
 (.leaf [(.v 4)]))
 (.ite (.o .lt (.i 1000000000) (.o (.add .i64) (.o (.add .i64) (.v 1) (.u (.conv .i64) (.v 2))) (.u (.conv .i64) (.v 3))))
 (.call 10 [] 1
 (.leaf [(.v 4)]))
 (.loop [(.i 0)]
 (.ite (.o .lt (.v 4) (.u .len (.v 0)))
 (.need (.o .le (.i 0) (.v 4)) (.need (.o .lt (.v 4) (.u .len (.v 0))) (.ite (.o .lt (.o .idx (.v 0) (.v 4)) (.i 1))
 (.call 18 [(.v 0), (.v 1), (.v 1)] 1
 (.ite (.o .eq (.v 5) (.i 0))
 (.call 10 [] 1
 (.leaf [(.v 6)]))
 (.leaf [(.b false)])))
 (.ite (.o .lt (.i 0) (.v 4))
 (.need (.o .le (.i 0) (.o (.sub .i64) (.v 4) (.i 1))) (.need (.o .lt (.o (.sub .i64) (.v 4) (.i 1)) (.u .len (.v 0))) (.need (.o .le (.i 0) (.v 4)) (.need (.o .lt (.v 4) (.u .len (.v 0))) (.ite (.o .le (.o .idx (.v 0) (.v 4)) (.o .idx (.v 0) (.o (.sub .i64) (.v 4) (.i 1))))
 (.call 18 [(.v 0), (.v 1), (.v 1)] 1
 (.ite (.o .eq (.v 5) (.i 0))
 (.call 10 [] 1
 (.leaf [(.v 6)]))
 (.leaf [(.b false)])))
 (.next 0 [(.o (.add .i64) (.v 4) (.i 1))]))))))
 (.next 0 [(.o (.add .i64) (.v 4) (.i 1))])))))
 (.call 18 [(.v 0), (.v 1), (.o (.add .i64) (.o (.add .i64) (.v 1) (.u (.conv .i64) (.v 2))) (.u (.conv .i64) (.v 3)))] 1
 (.need (.o .le (.u .len (.o .app (.o .cons (.i 0) .nil) (.v 0))) (.i 17592186044416)) (.call 18 [(.v 0), (.v 1), (.o (.add .i64) (.v 1) (.u (.conv .i64) (.v 2)))] 1
 (.call 18 [(.v 0), (.o (.add .i64) (.v 1) (.u (.conv .i64) (.v 2))), (.o (.add .i64) (.o (.add .i64) (.v 1) (.u (.conv .i64) (.v 2))) (.u (.conv .i64) (.v 3)))] 1
 (.ite (.o .eq (.v 5) (.o (.add .i64) (.v 6) (.v 7)))
 (.call 18 [(.o .app (.o .cons (.i 0) .nil) (.v 0)), (.v 1), (.o (.add .i64) (.o (.add .i64) (.v 1) (.u (.conv .i64) (.v 2))) (.u (.conv .i64) (.v 3)))] 1
 (.ite (.o .eq (.o (.add .i64) (.v 5) (.v 8)) (.o (.sub .i64) (.o (.add .i64) (.o (.add .i64) (.v 1) (.u (.conv .i64) (.v 2))) (.u (.conv .i64) (.v 3))) (.v 1)))
 (.call 10 [] 1
 (.leaf [(.v 9)]))
 (.leaf [(.b false)])))
 (.leaf [(.b false)]))))))))))))
noncomputable def k_simulatorlaw25_FaultAdds : Known Try.prog := known mixedOk [k_simulatorlaw25_awake, k_fault_Uptime] (by decide) [⟨800006, [(11, 0)], [38, 39, 40, 41, 44, 45, 46, 47, 48, 49, 50, 51, 52, 53, 54, 55, 56, 57, 58, 59, 60, 61, 62, 63, 64, 65, 66, 67, 68, 69, 70, 71, 72, 8, 42, 43], [], []⟩] plTypes plOk inFuncs insOk 6 ⟨8, [(.a (.row 3 [(.int .i64)] false)), (.a (.ck (.int .i64))), (.a (.ck (.int .u16))), (.a (.ck (.int .u16)))], (.c (.a (.ck .bool)))⟩ (fun args w => Try.call8 args w) tk_simulatorlaw25_FaultAdds (by kernel_rfl)
theorem k_simulatorlaw25_FaultAdds_f : k_simulatorlaw25_FaultAdds.con.f = 8 := rfl
theorem k_simulatorlaw25_FaultAdds_F (l : List Sc) : k_simulatorlaw25_FaultAdds.F l = if l.length = 4 then tk_simulatorlaw25_FaultAdds.den (gam (P := Try.prog) [k_simulatorlaw25_awake, k_fault_Uptime]) l [] else none := rfl
end Go.Proofs.Ytpmplppkjedpiaa
