/-
  What the functions of this seat reckon: their trees, checked by the kernel. Printed by a program of mine.
-/
import Derived.Test.YtgekeolponbifaaProg
import Derived.KernelRfl
import Derived.Test.YtgekeolponbifaaSymX
import Derived.Test.YtgekeolponbifaaExt
import Derived.Test.YtgekeolponbifaaGl0
namespace Go.Proofs.Ytgekeolponbifaa
open Go.RowKit
def plTypes : List Nat := [7, 8, 30, 31, 53, 54, 55, 56, 67, 68, 109, 110]
theorem plOk : PlainTy Try.prog plTypes := by
  intro t ht
  have := hasN_mem.1 ht
  simp only [plTypes, List.mem_cons, List.not_mem_nil, or_false] at this
  rcases this with rfl | rfl | rfl | rfl | rfl | rfl | rfl | rfl | rfl | rfl | rfl | rfl
  · exact ⟨Try.stoodInHeld7, Try.eqGuardType7⟩
  · exact ⟨Try.stoodInHeld8, Try.eqGuardType8⟩
  · exact ⟨Try.stoodInHeld30, Try.eqGuardType30⟩
  · exact ⟨Try.stoodInHeld31, Try.eqGuardType31⟩
  · exact ⟨Try.stoodInHeld53, Try.eqGuardType53⟩
  · exact ⟨Try.stoodInHeld54, Try.eqGuardType54⟩
  · exact ⟨Try.stoodInHeld55, Try.eqGuardType55⟩
  · exact ⟨Try.stoodInHeld56, Try.eqGuardType56⟩
  · exact ⟨Try.stoodInHeld67, Try.eqGuardType67⟩
  · exact ⟨Try.stoodInHeld68, Try.eqGuardType68⟩
  · exact ⟨Try.stoodInHeld109, Try.eqGuardType109⟩
  · exact ⟨Try.stoodInHeld110, Try.eqGuardType110⟩
def inFuncs : List Nat := [25, 26, 45]
theorem insOk : ∀ f, hasN inFuncs f = true → ∀ args w, (callFunc f args).run Try.prog w = .ok (.enter f args) w := by
  intro f hf
  have := hasN_mem.1 hf
  simp only [inFuncs, List.mem_cons, List.not_mem_nil, or_false] at this
  rcases this with rfl | rfl | rfl
  · exact fun args w => Try.call25 args w
  · exact fun args w => Try.call26 args w
  · exact fun args w => Try.call45 args w
theorem mixedOk : Try.prog.follows .mixedOrders = true := by kernel_rfl
noncomputable def k_bits_Add64 : Known Try.prog := ⟨carryCon 75, add64F, add64_holds Try.func75 (by kernel_rfl) (by kernel_rfl) (by kernel_rfl) (by kernel_rfl)⟩
theorem k_bits_Add64_f : k_bits_Add64.con.f = 75 := rfl
theorem k_bits_Add64_F (l : List Sc) : k_bits_Add64.F l = add64F l := rfl
noncomputable def k_bits_Sub64 : Known Try.prog := ⟨carryCon 76, sub64F, sub64_holds Try.func76 (by kernel_rfl) (by kernel_rfl) (by kernel_rfl) (by kernel_rfl)⟩
theorem k_bits_Sub64_f : k_bits_Sub64.con.f = 76 := rfl
theorem k_bits_Sub64_F (l : List Sc) : k_bits_Sub64.F l = sub64F l := rfl
def tk_simulatorref02_Same : T (List Ex) :=
 (.ite (.o .ne (.u .len (.v 0)) (.u .len (.v 1)))
 (.leaf [(.b false)])
 (.loop [(.i 0)]
 (.ite (.o .lt (.v 2) (.u .len (.v 0)))
 (.need (.o .le (.i 0) (.v 2)) (.need (.o .lt (.v 2) (.u .len (.v 0))) (.need (.o .le (.i 0) (.v 2)) (.need (.o .lt (.v 2) (.u .len (.v 1))) (.ite (.u .not (.o .and (.o .eq (.u (.cell 0) (.o .idx (.v 0) (.v 2))) (.u (.cell 0) (.o .idx (.v 1) (.v 2)))) (.o .and (.o .eq (.u (.cell 1) (.o .idx (.v 0) (.v 2))) (.u (.cell 1) (.o .idx (.v 1) (.v 2)))) (.b true))))
 (.leaf [(.b false)])
 (.next 0 [(.o (.add .i64) (.v 2) (.i 1))]))))))
 (.leaf [(.b true)]))))
noncomputable def k_simulatorref02_Same : Known Try.prog := known mixedOk [] (by decide) [⟨1300004, [(5, 0)], [11, 12, 13, 14, 17, 18, 19, 20, 21, 22, 23, 24, 25, 4, 15, 16], [], []⟩] plTypes plOk inFuncs insOk 6 ⟨13, [(.a (.row 31 [(.int .i64), (.int .i64)] true)), (.a (.row 31 [(.int .i64), (.int .i64)] true))], (.c (.a (.ck .bool)))⟩ (fun args w => Try.call13 args w) tk_simulatorref02_Same (by kernel_rfl)
theorem k_simulatorref02_Same_f : k_simulatorref02_Same.con.f = 13 := rfl
theorem k_simulatorref02_Same_F (l : List Sc) : k_simulatorref02_Same.F l = if l.length = 2 then tk_simulatorref02_Same.den (gam (P := Try.prog) []) l [] else none := rfl
def tk_simulatorlaw48_whole : T (List Ex) :=
 (.loop [.nil, (.i 0)]
 (.ite (.o .lt (.v 2) (.u .len (.v 0)))
 (.need (.o .le (.i 0) (.v 2)) (.need (.o .lt (.v 2) (.u .len (.v 0))) (.need (.o .le (.u .len (.o .snoc (.v 1) (.o .cons (.o .idx (.v 0) (.v 2)) (.o .cons (.i 1) .nil)))) (.i 8796093022208)) (.next 0 [(.o .snoc (.v 1) (.o .cons (.o .idx (.v 0) (.v 2)) (.o .cons (.i 1) .nil))), (.o (.add .i64) (.v 2) (.i 1))]))))
 (.leaf [(.v 1)])))
noncomputable def k_simulatorlaw48_whole : Known Try.prog := known mixedOk [] (by decide) [⟨2400003, [(3, 31), (4, 0)], [5, 6, 7, 8, 11, 12, 13, 14, 15, 16, 17, 18, 9, 10], [], []⟩] plTypes plOk inFuncs insOk 6 ⟨24, [(.a (.row 3 [(.int .i64)] false))], (.c (.a (.row 31 [(.int .i64), (.int .i64)] true)))⟩ (fun args w => Try.call24 args w) tk_simulatorlaw48_whole (by kernel_rfl)
theorem k_simulatorlaw48_whole_f : k_simulatorlaw48_whole.con.f = 24 := rfl
theorem k_simulatorlaw48_whole_F (l : List Sc) : k_simulatorlaw48_whole.F l = if l.length = 1 then tk_simulatorlaw48_whole.den (gam (P := Try.prog) []) l [] else none := rfl
def tk_batch_whole : T (List Ex) :=
 (.leaf [(.v 0), (.i 1)])
noncomputable def k_batch_whole : Known Try.prog := known mixedOk [] (by decide) [] plTypes plOk inFuncs insOk 6 ⟨34, [(.a (.ck (.int .i64)))], (.c (.g [(.ck (.int .i64)), (.ck (.int .i64))]))⟩ (fun args w => Try.call34 args w) tk_batch_whole (by kernel_rfl)
theorem k_batch_whole_f : k_batch_whole.con.f = 34 := rfl
theorem k_batch_whole_F (l : List Sc) : k_batch_whole.F l = if l.length = 1 then tk_batch_whole.den (gam (P := Try.prog) []) l [] else none := rfl
def tk_simulatorref02_Opposite : T (List Ex) :=
 (.leaf [(.o (.sub .i64) (.i 0) (.v 0)), (.v 1)])
noncomputable def k_simulatorref02_Opposite : Known Try.prog := known mixedOk [] (by decide) [] plTypes plOk inFuncs insOk 6 ⟨44, [(.g [(.ck (.int .i64)), (.ck (.int .i64))])], (.c (.g [(.ck (.int .i64)), (.ck (.int .i64))]))⟩ (fun args w => Try.call44 args w) tk_simulatorref02_Opposite (by kernel_rfl)
theorem k_simulatorref02_Opposite_f : k_simulatorref02_Opposite.con.f = 44 := rfl
theorem k_simulatorref02_Opposite_F (l : List Sc) : k_simulatorref02_Opposite.F l = if l.length = 2 then tk_simulatorref02_Opposite.den (gam (P := Try.prog) []) l [] else none := rfl
def tk_frac_gcd : T (List Ex) :=
 (.loop [(.v 0), (.v 1)]
 (.ite (.o .ne (.v 3) (.i 0))
 (.need (.o .ne (.v 3) (.i 0)) (.next 0 [(.v 3), (.o (.rem .u64) (.v 2) (.v 3))]))
 (.leaf [(.v 2)])))
noncomputable def k_frac_gcd : Known Try.prog := known mixedOk [] (by decide) [⟨4600001, [(0, 0), (1, 0)], [5, 6, 7, 8, 9, 10], [], []⟩] plTypes plOk inFuncs insOk 6 ⟨46, [(.a (.ck (.int .u64))), (.a (.ck (.int .u64)))], (.c (.a (.ck (.int .u64))))⟩ (fun args w => Try.call46 args w) tk_frac_gcd (by kernel_rfl)
theorem k_frac_gcd_f : k_frac_gcd.con.f = 46 := rfl
theorem k_frac_gcd_F (l : List Sc) : k_frac_gcd.F l = if l.length = 2 then tk_frac_gcd.den (gam (P := Try.prog) []) l [] else none := rfl
def tk_frac_size : T (List Ex) :=
 (.ite (.o .lt (.v 0) (.i 0))
 (.leaf [(.o (.sub .u64) (.i 0) (.u (.conv .u64) (.v 0)))])
 (.leaf [(.u (.conv .u64) (.v 0))]))
noncomputable def k_frac_size : Known Try.prog := known mixedOk [] (by decide) [] plTypes plOk inFuncs insOk 6 ⟨47, [(.a (.ck (.int .i64)))], (.c (.a (.ck (.int .u64))))⟩ (fun args w => Try.call47 args w) tk_frac_size (by kernel_rfl)
theorem k_frac_size_f : k_frac_size.con.f = 47 := rfl
theorem k_frac_size_F (l : List Sc) : k_frac_size.F l = if l.length = 1 then tk_frac_size.den (gam (P := Try.prog) []) l [] else none := rfl
def tk_frac_made : T (List Ex) :=
 (.ite (.o .lt (.i 4611686018427387904) (.v 1))
 (.leaf [(.i 0), (.i 0), (.b false)])
 (.ite (.o .lt (.i 1000000000000000) (.v 2))
 (.leaf [(.i 0), (.i 0), (.b false)])
 (.ite (.v 0)
 (.leaf [(.o (.sub .i64) (.i 0) (.u (.conv .i64) (.v 1))), (.u (.conv .i64) (.v 2)), (.b true)])
 (.leaf [(.u (.conv .i64) (.v 1)), (.u (.conv .i64) (.v 2)), (.b true)]))))
noncomputable def k_frac_made : Known Try.prog := known mixedOk [] (by decide) [] plTypes plOk inFuncs insOk 6 ⟨48, [(.a (.ck .bool)), (.a (.ck (.int .u64))), (.a (.ck (.int .u64)))], (.t [(.g [(.ck (.int .i64)), (.ck (.int .i64))]), (.a (.ck .bool))])⟩ (fun args w => Try.call48 args w) tk_frac_made (by kernel_rfl)
theorem k_frac_made_f : k_frac_made.con.f = 48 := rfl
theorem k_frac_made_F (l : List Sc) : k_frac_made.F l = if l.length = 3 then tk_frac_made.den (gam (P := Try.prog) []) l [] else none := rfl
def tk_simulatorref02_Size : T (List Ex) :=
 (.ite (.o .lt (.v 0) (.i 0))
 (.leaf [(.o (.add .u64) (.u (.conv .u64) (.o (.sub .i64) (.i 0) (.o (.add .i64) (.v 0) (.i 1)))) (.i 1))])
 (.leaf [(.u (.conv .u64) (.v 0))]))
noncomputable def k_simulatorref02_Size : Known Try.prog := known mixedOk [] (by decide) [] plTypes plOk inFuncs insOk 6 ⟨50, [(.a (.ck (.int .i64)))], (.c (.a (.ck (.int .u64))))⟩ (fun args w => Try.call50 args w) tk_simulatorref02_Size (by kernel_rfl)
theorem k_simulatorref02_Size_f : k_simulatorref02_Size.con.f = 50 := rfl
theorem k_simulatorref02_Size_F (l : List Sc) : k_simulatorref02_Size.F l = if l.length = 1 then tk_simulatorref02_Size.den (gam (P := Try.prog) []) l [] else none := rfl
def tk_frac_Valid : T (List Ex) :=
 (.ite (.o .le (.i 1) (.v 1))
 (.ite (.o .le (.v 1) (.i 1000000000000000))
 (.call 47 [(.v 0)] 1
 (.ite (.o .le (.v 2) (.i 4611686018427387904))
 (.call 47 [(.v 0)] 1
 (.call 46 [(.v 3), (.u (.conv .u64) (.v 1))] 1
 (.leaf [(.o .eq (.v 4) (.i 1))])))
 (.leaf [(.b false)])))
 (.leaf [(.b false)]))
 (.leaf [(.b false)]))
noncomputable def k_frac_Valid : Known Try.prog := known mixedOk [k_frac_size, k_frac_gcd] (by decide) [] plTypes plOk inFuncs insOk 6 ⟨55, [(.g [(.ck (.int .i64)), (.ck (.int .i64))])], (.c (.a (.ck .bool)))⟩ (fun args w => Try.call55 args w) tk_frac_Valid (by kernel_rfl)
theorem k_frac_Valid_f : k_frac_Valid.con.f = 55 := rfl
theorem k_frac_Valid_F (l : List Sc) : k_frac_Valid.F l = if l.length = 2 then tk_frac_Valid.den (gam (P := Try.prog) [k_frac_size, k_frac_gcd]) l [] else none := rfl
def tk_simulatorref02_Plus : T (List Ex) :=
 (.ite (.o .lt (.o (.add .u64) (.v 1) (.v 3)) (.v 1))
 (.leaf [(.o (.add .u64) (.o (.add .u64) (.v 0) (.v 2)) (.i 1)), (.o (.add .u64) (.v 1) (.v 3))])
 (.leaf [(.o (.add .u64) (.v 0) (.v 2)), (.o (.add .u64) (.v 1) (.v 3))]))
noncomputable def k_simulatorref02_Plus : Known Try.prog := known mixedOk [] (by decide) [] plTypes plOk inFuncs insOk 6 ⟨61, [(.g [(.ck (.int .u64)), (.ck (.int .u64))]), (.g [(.ck (.int .u64)), (.ck (.int .u64))])], (.c (.g [(.ck (.int .u64)), (.ck (.int .u64))]))⟩ (fun args w => Try.call61 args w) tk_simulatorref02_Plus (by kernel_rfl)
theorem k_simulatorref02_Plus_f : k_simulatorref02_Plus.con.f = 61 := rfl
theorem k_simulatorref02_Plus_F (l : List Sc) : k_simulatorref02_Plus.F l = if l.length = 4 then tk_simulatorref02_Plus.den (gam (P := Try.prog) []) l [] else none := rfl
def tk_simulatorref02_Less : T (List Ex) :=
 (.ite (.o .lt (.v 0) (.v 2))
 (.leaf [(.b true)])
 (.ite (.o .eq (.v 0) (.v 2))
 (.leaf [(.o .lt (.v 1) (.v 3))])
 (.leaf [(.b false)])))
noncomputable def k_simulatorref02_Less : Known Try.prog := known mixedOk [] (by decide) [] plTypes plOk inFuncs insOk 6 ⟨62, [(.g [(.ck (.int .u64)), (.ck (.int .u64))]), (.g [(.ck (.int .u64)), (.ck (.int .u64))])], (.c (.a (.ck .bool)))⟩ (fun args w => Try.call62 args w) tk_simulatorref02_Less (by kernel_rfl)
theorem k_simulatorref02_Less_f : k_simulatorref02_Less.con.f = 62 := rfl
theorem k_simulatorref02_Less_F (l : List Sc) : k_simulatorref02_Less.F l = if l.length = 4 then tk_simulatorref02_Less.den (gam (P := Try.prog) []) l [] else none := rfl
def tk_simulatorref02_Minus : T (List Ex) :=
 (.ite (.o .lt (.v 1) (.v 3))
 (.leaf [(.o (.sub .u64) (.o (.sub .u64) (.v 0) (.v 2)) (.i 1)), (.o (.sub .u64) (.v 1) (.v 3))])
 (.leaf [(.o (.sub .u64) (.v 0) (.v 2)), (.o (.sub .u64) (.v 1) (.v 3))]))
noncomputable def k_simulatorref02_Minus : Known Try.prog := known mixedOk [] (by decide) [] plTypes plOk inFuncs insOk 6 ⟨63, [(.g [(.ck (.int .u64)), (.ck (.int .u64))]), (.g [(.ck (.int .u64)), (.ck (.int .u64))])], (.c (.g [(.ck (.int .u64)), (.ck (.int .u64))]))⟩ (fun args w => Try.call63 args w) tk_simulatorref02_Minus (by kernel_rfl)
theorem k_simulatorref02_Minus_f : k_simulatorref02_Minus.con.f = 63 := rfl
theorem k_simulatorref02_Minus_F (l : List Sc) : k_simulatorref02_Minus.F l = if l.length = 4 then tk_simulatorref02_Minus.den (gam (P := Try.prog) []) l [] else none := rfl
def tk_frac_wide_plus : T (List Ex) :=
 (.call 75 [(.v 1), (.v 3), (.i 0)] 2
 (.call 75 [(.v 0), (.v 2), (.v 5)] 2
 (.leaf [(.v 6), (.v 4)])))
noncomputable def k_frac_wide_plus : Known Try.prog := known mixedOk [k_bits_Add64] (by decide) [] plTypes plOk inFuncs insOk 6 ⟨69, [(.g [(.ck (.int .u64)), (.ck (.int .u64))]), (.g [(.ck (.int .u64)), (.ck (.int .u64))])], (.c (.g [(.ck (.int .u64)), (.ck (.int .u64))]))⟩ (fun args w => Try.call69 args w) tk_frac_wide_plus (by kernel_rfl)
theorem k_frac_wide_plus_f : k_frac_wide_plus.con.f = 69 := rfl
theorem k_frac_wide_plus_F (l : List Sc) : k_frac_wide_plus.F l = if l.length = 4 then tk_frac_wide_plus.den (gam (P := Try.prog) [k_bits_Add64]) l [] else none := rfl
def tk_frac_wide_minus : T (List Ex) :=
 (.ite (.o .lt (.v 0) (.v 2))
 (.call 70 [(.v 2), (.v 3), (.v 0), (.v 1)] 3
 (.leaf [(.v 4), (.v 5), (.b true)]))
 (.ite (.o .eq (.v 0) (.v 2))
 (.ite (.o .lt (.v 1) (.v 3))
 (.call 70 [(.v 2), (.v 3), (.v 0), (.v 1)] 3
 (.leaf [(.v 4), (.v 5), (.b true)]))
 (.call 76 [(.v 1), (.v 3), (.i 0)] 2
 (.call 76 [(.v 0), (.v 2), (.v 5)] 2
 (.leaf [(.v 6), (.v 4), (.b false)]))))
 (.call 76 [(.v 1), (.v 3), (.i 0)] 2
 (.call 76 [(.v 0), (.v 2), (.v 5)] 2
 (.leaf [(.v 6), (.v 4), (.b false)])))))
noncomputable def k_frac_wide_minus_rec0 : Nat → {k : Known Try.prog // k.con = ⟨70, [(.g [(.ck (.int .u64)), (.ck (.int .u64))]), (.g [(.ck (.int .u64)), (.ck (.int .u64))])], (.t [(.g [(.ck (.int .u64)), (.ck (.int .u64))]), (.a (.ck .bool))])⟩} := knownRec mixedOk [k_bits_Sub64] ⟨70, [(.g [(.ck (.int .u64)), (.ck (.int .u64))]), (.g [(.ck (.int .u64)), (.ck (.int .u64))])], (.t [(.g [(.ck (.int .u64)), (.ck (.int .u64))]), (.a (.ck .bool))])⟩ (by decide) [] plTypes plOk inFuncs insOk 6 (fun args w => Try.call70 args w) tk_frac_wide_minus (by kernel_rfl)
noncomputable def k_frac_wide_minus_rec (n : Nat) : Known Try.prog := (k_frac_wide_minus_rec0 n).1
theorem k_frac_wide_minus_rec_con (n : Nat) : (k_frac_wide_minus_rec n).con = ⟨70, [(.g [(.ck (.int .u64)), (.ck (.int .u64))]), (.g [(.ck (.int .u64)), (.ck (.int .u64))])], (.t [(.g [(.ck (.int .u64)), (.ck (.int .u64))]), (.a (.ck .bool))])⟩ := (k_frac_wide_minus_rec0 n).2
theorem k_frac_wide_minus_rec_f (n : Nat) : (k_frac_wide_minus_rec n).con.f = 70 := by rw [k_frac_wide_minus_rec_con]
theorem k_frac_wide_minus_rec_F (n : Nat) (l : List Sc) : (k_frac_wide_minus_rec (n + 1)).F l = if l.length = 4 then tk_frac_wide_minus.den (gam (P := Try.prog) (k_frac_wide_minus_rec n :: [k_bits_Sub64])) l [] else none := rfl
noncomputable def k_frac_wide_minus : Known Try.prog := ⟨⟨70, [(.g [(.ck (.int .u64)), (.ck (.int .u64))]), (.g [(.ck (.int .u64)), (.ck (.int .u64))])], (.t [(.g [(.ck (.int .u64)), (.ck (.int .u64))]), (.a (.ck .bool))])⟩, (k_frac_wide_minus_rec rounds).F, by rw [← k_frac_wide_minus_rec_con rounds]; exact (k_frac_wide_minus_rec rounds).holds⟩
theorem k_frac_wide_minus_f : k_frac_wide_minus.con.f = 70 := rfl
theorem k_frac_wide_minus_F (l : List Sc) : k_frac_wide_minus.F l = (k_frac_wide_minus_rec rounds).F l := rfl
def tk_bits_Mul64 : T (List Ex) :=
 (.leaf [(.o (.add .u64) (.o (.add .u64) (.o (.mul .u64) (.o (.shr .u64) (.v 0) (.i 32)) (.o (.shr .u64) (.v 1) (.i 32))) (.o (.shr .u64) (.o (.add .u64) (.o (.mul .u64) (.o (.shr .u64) (.v 0) (.i 32)) (.o (.band .u64) (.v 1) (.i 4294967295))) (.o (.shr .u64) (.o (.mul .u64) (.o (.band .u64) (.v 0) (.i 4294967295)) (.o (.band .u64) (.v 1) (.i 4294967295))) (.i 32))) (.i 32))) (.o (.shr .u64) (.o (.add .u64) (.o (.band .u64) (.o (.add .u64) (.o (.mul .u64) (.o (.shr .u64) (.v 0) (.i 32)) (.o (.band .u64) (.v 1) (.i 4294967295))) (.o (.shr .u64) (.o (.mul .u64) (.o (.band .u64) (.v 0) (.i 4294967295)) (.o (.band .u64) (.v 1) (.i 4294967295))) (.i 32))) (.i 4294967295)) (.o (.mul .u64) (.o (.band .u64) (.v 0) (.i 4294967295)) (.o (.shr .u64) (.v 1) (.i 32)))) (.i 32))), (.o (.mul .u64) (.v 0) (.v 1))])
noncomputable def k_bits_Mul64 : Known Try.prog := known mixedOk [] (by decide) [] plTypes plOk inFuncs insOk 6 ⟨71, [(.a (.ck (.int .u64))), (.a (.ck (.int .u64)))], (.t [(.a (.ck (.int .u64))), (.a (.ck (.int .u64)))])⟩ (fun args w => Try.call71 args w) tk_bits_Mul64 (by kernel_rfl)
theorem k_bits_Mul64_f : k_bits_Mul64.con.f = 71 := rfl
theorem k_bits_Mul64_F (l : List Sc) : k_bits_Mul64.F l = if l.length = 2 then tk_bits_Mul64.den (gam (P := Try.prog) []) l [] else none := rfl
def tk_simulatorref02_bit : T (List Ex) :=
 (.ite (.o .le (.i 64) (.v 2))
 (.need (.o .le (.i 0) (.u (.conv .u64) (.o (.sub .i64) (.v 2) (.i 64)))) (.leaf [(.o (.rem .u64) (.o (.shr .u64) (.v 0) (.u (.conv .u64) (.o (.sub .i64) (.v 2) (.i 64)))) (.i 2))]))
 (.need (.o .le (.i 0) (.u (.conv .u64) (.v 2))) (.leaf [(.o (.rem .u64) (.o (.shr .u64) (.v 1) (.u (.conv .u64) (.v 2))) (.i 2))])))
noncomputable def k_simulatorref02_bit : Known Try.prog := known mixedOk [] (by decide) [] plTypes plOk inFuncs insOk 6 ⟨72, [(.g [(.ck (.int .u64)), (.ck (.int .u64))]), (.a (.ck (.int .i64)))], (.c (.a (.ck (.int .u64))))⟩ (fun args w => Try.call72 args w) tk_simulatorref02_bit (by kernel_rfl)
theorem k_simulatorref02_bit_f : k_simulatorref02_bit.con.f = 72 := rfl
theorem k_simulatorref02_bit_F (l : List Sc) : k_simulatorref02_bit.F l = if l.length = 3 then tk_simulatorref02_bit.den (gam (P := Try.prog) []) l [] else none := rfl
def tk_bits_Len64 : T (List Ex) :=
 (.ite (.o .le (.i 4294967296) (.v 0))
 (.ite (.o .le (.i 65536) (.o (.shr .u64) (.v 0) (.i 32)))
 (.ite (.o .le (.i 256) (.o (.shr .u64) (.o (.shr .u64) (.v 0) (.i 32)) (.i 16)))
 (.need (.o .le (.i 0) (.u (.conv .u8) (.o (.shr .u64) (.o (.shr .u64) (.o (.shr .u64) (.v 0) (.i 32)) (.i 16)) (.i 8)))) (.need (.o .lt (.u (.conv .u8) (.o (.shr .u64) (.o (.shr .u64) (.o (.shr .u64) (.v 0) (.i 32)) (.i 16)) (.i 8))) (.u .slen (.s [0, 1, 2, 2, 3, 3, 3, 3, 4, 4, 4, 4, 4, 4, 4, 4, 5, 5, 5, 5, 5, 5, 5, 5, 5, 5, 5, 5, 5, 5, 5, 5, 6, 6, 6, 6, 6, 6, 6, 6, 6, 6, 6, 6, 6, 6, 6, 6, 6, 6, 6, 6, 6, 6, 6, 6, 6, 6, 6, 6, 6, 6, 6, 6, 7, 7, 7, 7, 7, 7, 7, 7, 7, 7, 7, 7, 7, 7, 7, 7, 7, 7, 7, 7, 7, 7, 7, 7, 7, 7, 7, 7, 7, 7, 7, 7, 7, 7, 7, 7, 7, 7, 7, 7, 7, 7, 7, 7, 7, 7, 7, 7, 7, 7, 7, 7, 7, 7, 7, 7, 7, 7, 7, 7, 7, 7, 7, 7, 8, 8, 8, 8, 8, 8, 8, 8, 8, 8, 8, 8, 8, 8, 8, 8, 8, 8, 8, 8, 8, 8, 8, 8, 8, 8, 8, 8, 8, 8, 8, 8, 8, 8, 8, 8, 8, 8, 8, 8, 8, 8, 8, 8, 8, 8, 8, 8, 8, 8, 8, 8, 8, 8, 8, 8, 8, 8, 8, 8, 8, 8, 8, 8, 8, 8, 8, 8, 8, 8, 8, 8, 8, 8, 8, 8, 8, 8, 8, 8, 8, 8, 8, 8, 8, 8, 8, 8, 8, 8, 8, 8, 8, 8, 8, 8, 8, 8, 8, 8, 8, 8, 8, 8, 8, 8, 8, 8, 8, 8, 8, 8, 8, 8, 8, 8, 8, 8, 8, 8, 8, 8, 8, 8, 8, 8, 8, 8]))) (.leaf [(.o (.add .i64) (.i 56) (.u (.conv .i64) (.o .sidx (.s [0, 1, 2, 2, 3, 3, 3, 3, 4, 4, 4, 4, 4, 4, 4, 4, 5, 5, 5, 5, 5, 5, 5, 5, 5, 5, 5, 5, 5, 5, 5, 5, 6, 6, 6, 6, 6, 6, 6, 6, 6, 6, 6, 6, 6, 6, 6, 6, 6, 6, 6, 6, 6, 6, 6, 6, 6, 6, 6, 6, 6, 6, 6, 6, 7, 7, 7, 7, 7, 7, 7, 7, 7, 7, 7, 7, 7, 7, 7, 7, 7, 7, 7, 7, 7, 7, 7, 7, 7, 7, 7, 7, 7, 7, 7, 7, 7, 7, 7, 7, 7, 7, 7, 7, 7, 7, 7, 7, 7, 7, 7, 7, 7, 7, 7, 7, 7, 7, 7, 7, 7, 7, 7, 7, 7, 7, 7, 7, 8, 8, 8, 8, 8, 8, 8, 8, 8, 8, 8, 8, 8, 8, 8, 8, 8, 8, 8, 8, 8, 8, 8, 8, 8, 8, 8, 8, 8, 8, 8, 8, 8, 8, 8, 8, 8, 8, 8, 8, 8, 8, 8, 8, 8, 8, 8, 8, 8, 8, 8, 8, 8, 8, 8, 8, 8, 8, 8, 8, 8, 8, 8, 8, 8, 8, 8, 8, 8, 8, 8, 8, 8, 8, 8, 8, 8, 8, 8, 8, 8, 8, 8, 8, 8, 8, 8, 8, 8, 8, 8, 8, 8, 8, 8, 8, 8, 8, 8, 8, 8, 8, 8, 8, 8, 8, 8, 8, 8, 8, 8, 8, 8, 8, 8, 8, 8, 8, 8, 8, 8, 8, 8, 8, 8, 8, 8, 8]) (.u (.conv .u8) (.o (.shr .u64) (.o (.shr .u64) (.o (.shr .u64) (.v 0) (.i 32)) (.i 16)) (.i 8))))))])))
 (.need (.o .le (.i 0) (.u (.conv .u8) (.o (.shr .u64) (.o (.shr .u64) (.v 0) (.i 32)) (.i 16)))) (.need (.o .lt (.u (.conv .u8) (.o (.shr .u64) (.o (.shr .u64) (.v 0) (.i 32)) (.i 16))) (.u .slen (.s [0, 1, 2, 2, 3, 3, 3, 3, 4, 4, 4, 4, 4, 4, 4, 4, 5, 5, 5, 5, 5, 5, 5, 5, 5, 5, 5, 5, 5, 5, 5, 5, 6, 6, 6, 6, 6, 6, 6, 6, 6, 6, 6, 6, 6, 6, 6, 6, 6, 6, 6, 6, 6, 6, 6, 6, 6, 6, 6, 6, 6, 6, 6, 6, 7, 7, 7, 7, 7, 7, 7, 7, 7, 7, 7, 7, 7, 7, 7, 7, 7, 7, 7, 7, 7, 7, 7, 7, 7, 7, 7, 7, 7, 7, 7, 7, 7, 7, 7, 7, 7, 7, 7, 7, 7, 7, 7, 7, 7, 7, 7, 7, 7, 7, 7, 7, 7, 7, 7, 7, 7, 7, 7, 7, 7, 7, 7, 7, 8, 8, 8, 8, 8, 8, 8, 8, 8, 8, 8, 8, 8, 8, 8, 8, 8, 8, 8, 8, 8, 8, 8, 8, 8, 8, 8, 8, 8, 8, 8, 8, 8, 8, 8, 8, 8, 8, 8, 8, 8, 8, 8, 8, 8, 8, 8, 8, 8, 8, 8, 8, 8, 8, 8, 8, 8, 8, 8, 8, 8, 8, 8, 8, 8, 8, 8, 8, 8, 8, 8, 8, 8, 8, 8, 8, 8, 8, 8, 8, 8, 8, 8, 8, 8, 8, 8, 8, 8, 8, 8, 8, 8, 8, 8, 8, 8, 8, 8, 8, 8, 8, 8, 8, 8, 8, 8, 8, 8, 8, 8, 8, 8, 8, 8, 8, 8, 8, 8, 8, 8, 8, 8, 8, 8, 8, 8, 8]))) (.leaf [(.o (.add .i64) (.i 48) (.u (.conv .i64) (.o .sidx (.s [0, 1, 2, 2, 3, 3, 3, 3, 4, 4, 4, 4, 4, 4, 4, 4, 5, 5, 5, 5, 5, 5, 5, 5, 5, 5, 5, 5, 5, 5, 5, 5, 6, 6, 6, 6, 6, 6, 6, 6, 6, 6, 6, 6, 6, 6, 6, 6, 6, 6, 6, 6, 6, 6, 6, 6, 6, 6, 6, 6, 6, 6, 6, 6, 7, 7, 7, 7, 7, 7, 7, 7, 7, 7, 7, 7, 7, 7, 7, 7, 7, 7, 7, 7, 7, 7, 7, 7, 7, 7, 7, 7, 7, 7, 7, 7, 7, 7, 7, 7, 7, 7, 7, 7, 7, 7, 7, 7, 7, 7, 7, 7, 7, 7, 7, 7, 7, 7, 7, 7, 7, 7, 7, 7, 7, 7, 7, 7, 8, 8, 8, 8, 8, 8, 8, 8, 8, 8, 8, 8, 8, 8, 8, 8, 8, 8, 8, 8, 8, 8, 8, 8, 8, 8, 8, 8, 8, 8, 8, 8, 8, 8, 8, 8, 8, 8, 8, 8, 8, 8, 8, 8, 8, 8, 8, 8, 8, 8, 8, 8, 8, 8, 8, 8, 8, 8, 8, 8, 8, 8, 8, 8, 8, 8, 8, 8, 8, 8, 8, 8, 8, 8, 8, 8, 8, 8, 8, 8, 8, 8, 8, 8, 8, 8, 8, 8, 8, 8, 8, 8, 8, 8, 8, 8, 8, 8, 8, 8, 8, 8, 8, 8, 8, 8, 8, 8, 8, 8, 8, 8, 8, 8, 8, 8, 8, 8, 8, 8, 8, 8, 8, 8, 8, 8, 8, 8]) (.u (.conv .u8) (.o (.shr .u64) (.o (.shr .u64) (.v 0) (.i 32)) (.i 16))))))]))))
 (.ite (.o .le (.i 256) (.o (.shr .u64) (.v 0) (.i 32)))
 (.need (.o .le (.i 0) (.u (.conv .u8) (.o (.shr .u64) (.o (.shr .u64) (.v 0) (.i 32)) (.i 8)))) (.need (.o .lt (.u (.conv .u8) (.o (.shr .u64) (.o (.shr .u64) (.v 0) (.i 32)) (.i 8))) (.u .slen (.s [0, 1, 2, 2, 3, 3, 3, 3, 4, 4, 4, 4, 4, 4, 4, 4, 5, 5, 5, 5, 5, 5, 5, 5, 5, 5, 5, 5, 5, 5, 5, 5, 6, 6, 6, 6, 6, 6, 6, 6, 6, 6, 6, 6, 6, 6, 6, 6, 6, 6, 6, 6, 6, 6, 6, 6, 6, 6, 6, 6, 6, 6, 6, 6, 7, 7, 7, 7, 7, 7, 7, 7, 7, 7, 7, 7, 7, 7, 7, 7, 7, 7, 7, 7, 7, 7, 7, 7, 7, 7, 7, 7, 7, 7, 7, 7, 7, 7, 7, 7, 7, 7, 7, 7, 7, 7, 7, 7, 7, 7, 7, 7, 7, 7, 7, 7, 7, 7, 7, 7, 7, 7, 7, 7, 7, 7, 7, 7, 8, 8, 8, 8, 8, 8, 8, 8, 8, 8, 8, 8, 8, 8, 8, 8, 8, 8, 8, 8, 8, 8, 8, 8, 8, 8, 8, 8, 8, 8, 8, 8, 8, 8, 8, 8, 8, 8, 8, 8, 8, 8, 8, 8, 8, 8, 8, 8, 8, 8, 8, 8, 8, 8, 8, 8, 8, 8, 8, 8, 8, 8, 8, 8, 8, 8, 8, 8, 8, 8, 8, 8, 8, 8, 8, 8, 8, 8, 8, 8, 8, 8, 8, 8, 8, 8, 8, 8, 8, 8, 8, 8, 8, 8, 8, 8, 8, 8, 8, 8, 8, 8, 8, 8, 8, 8, 8, 8, 8, 8, 8, 8, 8, 8, 8, 8, 8, 8, 8, 8, 8, 8, 8, 8, 8, 8, 8, 8]))) (.leaf [(.o (.add .i64) (.i 40) (.u (.conv .i64) (.o .sidx (.s [0, 1, 2, 2, 3, 3, 3, 3, 4, 4, 4, 4, 4, 4, 4, 4, 5, 5, 5, 5, 5, 5, 5, 5, 5, 5, 5, 5, 5, 5, 5, 5, 6, 6, 6, 6, 6, 6, 6, 6, 6, 6, 6, 6, 6, 6, 6, 6, 6, 6, 6, 6, 6, 6, 6, 6, 6, 6, 6, 6, 6, 6, 6, 6, 7, 7, 7, 7, 7, 7, 7, 7, 7, 7, 7, 7, 7, 7, 7, 7, 7, 7, 7, 7, 7, 7, 7, 7, 7, 7, 7, 7, 7, 7, 7, 7, 7, 7, 7, 7, 7, 7, 7, 7, 7, 7, 7, 7, 7, 7, 7, 7, 7, 7, 7, 7, 7, 7, 7, 7, 7, 7, 7, 7, 7, 7, 7, 7, 8, 8, 8, 8, 8, 8, 8, 8, 8, 8, 8, 8, 8, 8, 8, 8, 8, 8, 8, 8, 8, 8, 8, 8, 8, 8, 8, 8, 8, 8, 8, 8, 8, 8, 8, 8, 8, 8, 8, 8, 8, 8, 8, 8, 8, 8, 8, 8, 8, 8, 8, 8, 8, 8, 8, 8, 8, 8, 8, 8, 8, 8, 8, 8, 8, 8, 8, 8, 8, 8, 8, 8, 8, 8, 8, 8, 8, 8, 8, 8, 8, 8, 8, 8, 8, 8, 8, 8, 8, 8, 8, 8, 8, 8, 8, 8, 8, 8, 8, 8, 8, 8, 8, 8, 8, 8, 8, 8, 8, 8, 8, 8, 8, 8, 8, 8, 8, 8, 8, 8, 8, 8, 8, 8, 8, 8, 8, 8]) (.u (.conv .u8) (.o (.shr .u64) (.o (.shr .u64) (.v 0) (.i 32)) (.i 8))))))])))
 (.need (.o .le (.i 0) (.u (.conv .u8) (.o (.shr .u64) (.v 0) (.i 32)))) (.need (.o .lt (.u (.conv .u8) (.o (.shr .u64) (.v 0) (.i 32))) (.u .slen (.s [0, 1, 2, 2, 3, 3, 3, 3, 4, 4, 4, 4, 4, 4, 4, 4, 5, 5, 5, 5, 5, 5, 5, 5, 5, 5, 5, 5, 5, 5, 5, 5, 6, 6, 6, 6, 6, 6, 6, 6, 6, 6, 6, 6, 6, 6, 6, 6, 6, 6, 6, 6, 6, 6, 6, 6, 6, 6, 6, 6, 6, 6, 6, 6, 7, 7, 7, 7, 7, 7, 7, 7, 7, 7, 7, 7, 7, 7, 7, 7, 7, 7, 7, 7, 7, 7, 7, 7, 7, 7, 7, 7, 7, 7, 7, 7, 7, 7, 7, 7, 7, 7, 7, 7, 7, 7, 7, 7, 7, 7, 7, 7, 7, 7, 7, 7, 7, 7, 7, 7, 7, 7, 7, 7, 7, 7, 7, 7, 8, 8, 8, 8, 8, 8, 8, 8, 8, 8, 8, 8, 8, 8, 8, 8, 8, 8, 8, 8, 8, 8, 8, 8, 8, 8, 8, 8, 8, 8, 8, 8, 8, 8, 8, 8, 8, 8, 8, 8, 8, 8, 8, 8, 8, 8, 8, 8, 8, 8, 8, 8, 8, 8, 8, 8, 8, 8, 8, 8, 8, 8, 8, 8, 8, 8, 8, 8, 8, 8, 8, 8, 8, 8, 8, 8, 8, 8, 8, 8, 8, 8, 8, 8, 8, 8, 8, 8, 8, 8, 8, 8, 8, 8, 8, 8, 8, 8, 8, 8, 8, 8, 8, 8, 8, 8, 8, 8, 8, 8, 8, 8, 8, 8, 8, 8, 8, 8, 8, 8, 8, 8, 8, 8, 8, 8, 8, 8]))) (.leaf [(.o (.add .i64) (.i 32) (.u (.conv .i64) (.o .sidx (.s [0, 1, 2, 2, 3, 3, 3, 3, 4, 4, 4, 4, 4, 4, 4, 4, 5, 5, 5, 5, 5, 5, 5, 5, 5, 5, 5, 5, 5, 5, 5, 5, 6, 6, 6, 6, 6, 6, 6, 6, 6, 6, 6, 6, 6, 6, 6, 6, 6, 6, 6, 6, 6, 6, 6, 6, 6, 6, 6, 6, 6, 6, 6, 6, 7, 7, 7, 7, 7, 7, 7, 7, 7, 7, 7, 7, 7, 7, 7, 7, 7, 7, 7, 7, 7, 7, 7, 7, 7, 7, 7, 7, 7, 7, 7, 7, 7, 7, 7, 7, 7, 7, 7, 7, 7, 7, 7, 7, 7, 7, 7, 7, 7, 7, 7, 7, 7, 7, 7, 7, 7, 7, 7, 7, 7, 7, 7, 7, 8, 8, 8, 8, 8, 8, 8, 8, 8, 8, 8, 8, 8, 8, 8, 8, 8, 8, 8, 8, 8, 8, 8, 8, 8, 8, 8, 8, 8, 8, 8, 8, 8, 8, 8, 8, 8, 8, 8, 8, 8, 8, 8, 8, 8, 8, 8, 8, 8, 8, 8, 8, 8, 8, 8, 8, 8, 8, 8, 8, 8, 8, 8, 8, 8, 8, 8, 8, 8, 8, 8, 8, 8, 8, 8, 8, 8, 8, 8, 8, 8, 8, 8, 8, 8, 8, 8, 8, 8, 8, 8, 8, 8, 8, 8, 8, 8, 8, 8, 8, 8, 8, 8, 8, 8, 8, 8, 8, 8, 8, 8, 8, 8, 8, 8, 8, 8, 8, 8, 8, 8, 8, 8, 8, 8, 8, 8, 8]) (.u (.conv .u8) (.o (.shr .u64) (.v 0) (.i 32))))))])))))
 (.ite (.o .le (.i 65536) (.v 0))
 (.ite (.o .le (.i 256) (.o (.shr .u64) (.v 0) (.i 16)))
 (.need (.o .le (.i 0) (.u (.conv .u8) (.o (.shr .u64) (.o (.shr .u64) (.v 0) (.i 16)) (.i 8)))) (.need (.o .lt (.u (.conv .u8) (.o (.shr .u64) (.o (.shr .u64) (.v 0) (.i 16)) (.i 8))) (.u .slen (.s [0, 1, 2, 2, 3, 3, 3, 3, 4, 4, 4, 4, 4, 4, 4, 4, 5, 5, 5, 5, 5, 5, 5, 5, 5, 5, 5, 5, 5, 5, 5, 5, 6, 6, 6, 6, 6, 6, 6, 6, 6, 6, 6, 6, 6, 6, 6, 6, 6, 6, 6, 6, 6, 6, 6, 6, 6, 6, 6, 6, 6, 6, 6, 6, 7, 7, 7, 7, 7, 7, 7, 7, 7, 7, 7, 7, 7, 7, 7, 7, 7, 7, 7, 7, 7, 7, 7, 7, 7, 7, 7, 7, 7, 7, 7, 7, 7, 7, 7, 7, 7, 7, 7, 7, 7, 7, 7, 7, 7, 7, 7, 7, 7, 7, 7, 7, 7, 7, 7, 7, 7, 7, 7, 7, 7, 7, 7, 7, 8, 8, 8, 8, 8, 8, 8, 8, 8, 8, 8, 8, 8, 8, 8, 8, 8, 8, 8, 8, 8, 8, 8, 8, 8, 8, 8, 8, 8, 8, 8, 8, 8, 8, 8, 8, 8, 8, 8, 8, 8, 8, 8, 8, 8, 8, 8, 8, 8, 8, 8, 8, 8, 8, 8, 8, 8, 8, 8, 8, 8, 8, 8, 8, 8, 8, 8, 8, 8, 8, 8, 8, 8, 8, 8, 8, 8, 8, 8, 8, 8, 8, 8, 8, 8, 8, 8, 8, 8, 8, 8, 8, 8, 8, 8, 8, 8, 8, 8, 8, 8, 8, 8, 8, 8, 8, 8, 8, 8, 8, 8, 8, 8, 8, 8, 8, 8, 8, 8, 8, 8, 8, 8, 8, 8, 8, 8, 8]))) (.leaf [(.o (.add .i64) (.i 24) (.u (.conv .i64) (.o .sidx (.s [0, 1, 2, 2, 3, 3, 3, 3, 4, 4, 4, 4, 4, 4, 4, 4, 5, 5, 5, 5, 5, 5, 5, 5, 5, 5, 5, 5, 5, 5, 5, 5, 6, 6, 6, 6, 6, 6, 6, 6, 6, 6, 6, 6, 6, 6, 6, 6, 6, 6, 6, 6, 6, 6, 6, 6, 6, 6, 6, 6, 6, 6, 6, 6, 7, 7, 7, 7, 7, 7, 7, 7, 7, 7, 7, 7, 7, 7, 7, 7, 7, 7, 7, 7, 7, 7, 7, 7, 7, 7, 7, 7, 7, 7, 7, 7, 7, 7, 7, 7, 7, 7, 7, 7, 7, 7, 7, 7, 7, 7, 7, 7, 7, 7, 7, 7, 7, 7, 7, 7, 7, 7, 7, 7, 7, 7, 7, 7, 8, 8, 8, 8, 8, 8, 8, 8, 8, 8, 8, 8, 8, 8, 8, 8, 8, 8, 8, 8, 8, 8, 8, 8, 8, 8, 8, 8, 8, 8, 8, 8, 8, 8, 8, 8, 8, 8, 8, 8, 8, 8, 8, 8, 8, 8, 8, 8, 8, 8, 8, 8, 8, 8, 8, 8, 8, 8, 8, 8, 8, 8, 8, 8, 8, 8, 8, 8, 8, 8, 8, 8, 8, 8, 8, 8, 8, 8, 8, 8, 8, 8, 8, 8, 8, 8, 8, 8, 8, 8, 8, 8, 8, 8, 8, 8, 8, 8, 8, 8, 8, 8, 8, 8, 8, 8, 8, 8, 8, 8, 8, 8, 8, 8, 8, 8, 8, 8, 8, 8, 8, 8, 8, 8, 8, 8, 8, 8]) (.u (.conv .u8) (.o (.shr .u64) (.o (.shr .u64) (.v 0) (.i 16)) (.i 8))))))])))
 (.need (.o .le (.i 0) (.u (.conv .u8) (.o (.shr .u64) (.v 0) (.i 16)))) (.need (.o .lt (.u (.conv .u8) (.o (.shr .u64) (.v 0) (.i 16))) (.u .slen (.s [0, 1, 2, 2, 3, 3, 3, 3, 4, 4, 4, 4, 4, 4, 4, 4, 5, 5, 5, 5, 5, 5, 5, 5, 5, 5, 5, 5, 5, 5, 5, 5, 6, 6, 6, 6, 6, 6, 6, 6, 6, 6, 6, 6, 6, 6, 6, 6, 6, 6, 6, 6, 6, 6, 6, 6, 6, 6, 6, 6, 6, 6, 6, 6, 7, 7, 7, 7, 7, 7, 7, 7, 7, 7, 7, 7, 7, 7, 7, 7, 7, 7, 7, 7, 7, 7, 7, 7, 7, 7, 7, 7, 7, 7, 7, 7, 7, 7, 7, 7, 7, 7, 7, 7, 7, 7, 7, 7, 7, 7, 7, 7, 7, 7, 7, 7, 7, 7, 7, 7, 7, 7, 7, 7, 7, 7, 7, 7, 8, 8, 8, 8, 8, 8, 8, 8, 8, 8, 8, 8, 8, 8, 8, 8, 8, 8, 8, 8, 8, 8, 8, 8, 8, 8, 8, 8, 8, 8, 8, 8, 8, 8, 8, 8, 8, 8, 8, 8, 8, 8, 8, 8, 8, 8, 8, 8, 8, 8, 8, 8, 8, 8, 8, 8, 8, 8, 8, 8, 8, 8, 8, 8, 8, 8, 8, 8, 8, 8, 8, 8, 8, 8, 8, 8, 8, 8, 8, 8, 8, 8, 8, 8, 8, 8, 8, 8, 8, 8, 8, 8, 8, 8, 8, 8, 8, 8, 8, 8, 8, 8, 8, 8, 8, 8, 8, 8, 8, 8, 8, 8, 8, 8, 8, 8, 8, 8, 8, 8, 8, 8, 8, 8, 8, 8, 8, 8]))) (.leaf [(.o (.add .i64) (.i 16) (.u (.conv .i64) (.o .sidx (.s [0, 1, 2, 2, 3, 3, 3, 3, 4, 4, 4, 4, 4, 4, 4, 4, 5, 5, 5, 5, 5, 5, 5, 5, 5, 5, 5, 5, 5, 5, 5, 5, 6, 6, 6, 6, 6, 6, 6, 6, 6, 6, 6, 6, 6, 6, 6, 6, 6, 6, 6, 6, 6, 6, 6, 6, 6, 6, 6, 6, 6, 6, 6, 6, 7, 7, 7, 7, 7, 7, 7, 7, 7, 7, 7, 7, 7, 7, 7, 7, 7, 7, 7, 7, 7, 7, 7, 7, 7, 7, 7, 7, 7, 7, 7, 7, 7, 7, 7, 7, 7, 7, 7, 7, 7, 7, 7, 7, 7, 7, 7, 7, 7, 7, 7, 7, 7, 7, 7, 7, 7, 7, 7, 7, 7, 7, 7, 7, 8, 8, 8, 8, 8, 8, 8, 8, 8, 8, 8, 8, 8, 8, 8, 8, 8, 8, 8, 8, 8, 8, 8, 8, 8, 8, 8, 8, 8, 8, 8, 8, 8, 8, 8, 8, 8, 8, 8, 8, 8, 8, 8, 8, 8, 8, 8, 8, 8, 8, 8, 8, 8, 8, 8, 8, 8, 8, 8, 8, 8, 8, 8, 8, 8, 8, 8, 8, 8, 8, 8, 8, 8, 8, 8, 8, 8, 8, 8, 8, 8, 8, 8, 8, 8, 8, 8, 8, 8, 8, 8, 8, 8, 8, 8, 8, 8, 8, 8, 8, 8, 8, 8, 8, 8, 8, 8, 8, 8, 8, 8, 8, 8, 8, 8, 8, 8, 8, 8, 8, 8, 8, 8, 8, 8, 8, 8, 8]) (.u (.conv .u8) (.o (.shr .u64) (.v 0) (.i 16))))))]))))
 (.ite (.o .le (.i 256) (.v 0))
 (.need (.o .le (.i 0) (.u (.conv .u8) (.o (.shr .u64) (.v 0) (.i 8)))) (.need (.o .lt (.u (.conv .u8) (.o (.shr .u64) (.v 0) (.i 8))) (.u .slen (.s [0, 1, 2, 2, 3, 3, 3, 3, 4, 4, 4, 4, 4, 4, 4, 4, 5, 5, 5, 5, 5, 5, 5, 5, 5, 5, 5, 5, 5, 5, 5, 5, 6, 6, 6, 6, 6, 6, 6, 6, 6, 6, 6, 6, 6, 6, 6, 6, 6, 6, 6, 6, 6, 6, 6, 6, 6, 6, 6, 6, 6, 6, 6, 6, 7, 7, 7, 7, 7, 7, 7, 7, 7, 7, 7, 7, 7, 7, 7, 7, 7, 7, 7, 7, 7, 7, 7, 7, 7, 7, 7, 7, 7, 7, 7, 7, 7, 7, 7, 7, 7, 7, 7, 7, 7, 7, 7, 7, 7, 7, 7, 7, 7, 7, 7, 7, 7, 7, 7, 7, 7, 7, 7, 7, 7, 7, 7, 7, 8, 8, 8, 8, 8, 8, 8, 8, 8, 8, 8, 8, 8, 8, 8, 8, 8, 8, 8, 8, 8, 8, 8, 8, 8, 8, 8, 8, 8, 8, 8, 8, 8, 8, 8, 8, 8, 8, 8, 8, 8, 8, 8, 8, 8, 8, 8, 8, 8, 8, 8, 8, 8, 8, 8, 8, 8, 8, 8, 8, 8, 8, 8, 8, 8, 8, 8, 8, 8, 8, 8, 8, 8, 8, 8, 8, 8, 8, 8, 8, 8, 8, 8, 8, 8, 8, 8, 8, 8, 8, 8, 8, 8, 8, 8, 8, 8, 8, 8, 8, 8, 8, 8, 8, 8, 8, 8, 8, 8, 8, 8, 8, 8, 8, 8, 8, 8, 8, 8, 8, 8, 8, 8, 8, 8, 8, 8, 8]))) (.leaf [(.o (.add .i64) (.i 8) (.u (.conv .i64) (.o .sidx (.s [0, 1, 2, 2, 3, 3, 3, 3, 4, 4, 4, 4, 4, 4, 4, 4, 5, 5, 5, 5, 5, 5, 5, 5, 5, 5, 5, 5, 5, 5, 5, 5, 6, 6, 6, 6, 6, 6, 6, 6, 6, 6, 6, 6, 6, 6, 6, 6, 6, 6, 6, 6, 6, 6, 6, 6, 6, 6, 6, 6, 6, 6, 6, 6, 7, 7, 7, 7, 7, 7, 7, 7, 7, 7, 7, 7, 7, 7, 7, 7, 7, 7, 7, 7, 7, 7, 7, 7, 7, 7, 7, 7, 7, 7, 7, 7, 7, 7, 7, 7, 7, 7, 7, 7, 7, 7, 7, 7, 7, 7, 7, 7, 7, 7, 7, 7, 7, 7, 7, 7, 7, 7, 7, 7, 7, 7, 7, 7, 8, 8, 8, 8, 8, 8, 8, 8, 8, 8, 8, 8, 8, 8, 8, 8, 8, 8, 8, 8, 8, 8, 8, 8, 8, 8, 8, 8, 8, 8, 8, 8, 8, 8, 8, 8, 8, 8, 8, 8, 8, 8, 8, 8, 8, 8, 8, 8, 8, 8, 8, 8, 8, 8, 8, 8, 8, 8, 8, 8, 8, 8, 8, 8, 8, 8, 8, 8, 8, 8, 8, 8, 8, 8, 8, 8, 8, 8, 8, 8, 8, 8, 8, 8, 8, 8, 8, 8, 8, 8, 8, 8, 8, 8, 8, 8, 8, 8, 8, 8, 8, 8, 8, 8, 8, 8, 8, 8, 8, 8, 8, 8, 8, 8, 8, 8, 8, 8, 8, 8, 8, 8, 8, 8, 8, 8, 8, 8]) (.u (.conv .u8) (.o (.shr .u64) (.v 0) (.i 8))))))])))
 (.need (.o .le (.i 0) (.u (.conv .u8) (.v 0))) (.need (.o .lt (.u (.conv .u8) (.v 0)) (.u .slen (.s [0, 1, 2, 2, 3, 3, 3, 3, 4, 4, 4, 4, 4, 4, 4, 4, 5, 5, 5, 5, 5, 5, 5, 5, 5, 5, 5, 5, 5, 5, 5, 5, 6, 6, 6, 6, 6, 6, 6, 6, 6, 6, 6, 6, 6, 6, 6, 6, 6, 6, 6, 6, 6, 6, 6, 6, 6, 6, 6, 6, 6, 6, 6, 6, 7, 7, 7, 7, 7, 7, 7, 7, 7, 7, 7, 7, 7, 7, 7, 7, 7, 7, 7, 7, 7, 7, 7, 7, 7, 7, 7, 7, 7, 7, 7, 7, 7, 7, 7, 7, 7, 7, 7, 7, 7, 7, 7, 7, 7, 7, 7, 7, 7, 7, 7, 7, 7, 7, 7, 7, 7, 7, 7, 7, 7, 7, 7, 7, 8, 8, 8, 8, 8, 8, 8, 8, 8, 8, 8, 8, 8, 8, 8, 8, 8, 8, 8, 8, 8, 8, 8, 8, 8, 8, 8, 8, 8, 8, 8, 8, 8, 8, 8, 8, 8, 8, 8, 8, 8, 8, 8, 8, 8, 8, 8, 8, 8, 8, 8, 8, 8, 8, 8, 8, 8, 8, 8, 8, 8, 8, 8, 8, 8, 8, 8, 8, 8, 8, 8, 8, 8, 8, 8, 8, 8, 8, 8, 8, 8, 8, 8, 8, 8, 8, 8, 8, 8, 8, 8, 8, 8, 8, 8, 8, 8, 8, 8, 8, 8, 8, 8, 8, 8, 8, 8, 8, 8, 8, 8, 8, 8, 8, 8, 8, 8, 8, 8, 8, 8, 8, 8, 8, 8, 8, 8, 8]))) (.leaf [(.o (.add .i64) (.i 0) (.u (.conv .i64) (.o .sidx (.s [0, 1, 2, 2, 3, 3, 3, 3, 4, 4, 4, 4, 4, 4, 4, 4, 5, 5, 5, 5, 5, 5, 5, 5, 5, 5, 5, 5, 5, 5, 5, 5, 6, 6, 6, 6, 6, 6, 6, 6, 6, 6, 6, 6, 6, 6, 6, 6, 6, 6, 6, 6, 6, 6, 6, 6, 6, 6, 6, 6, 6, 6, 6, 6, 7, 7, 7, 7, 7, 7, 7, 7, 7, 7, 7, 7, 7, 7, 7, 7, 7, 7, 7, 7, 7, 7, 7, 7, 7, 7, 7, 7, 7, 7, 7, 7, 7, 7, 7, 7, 7, 7, 7, 7, 7, 7, 7, 7, 7, 7, 7, 7, 7, 7, 7, 7, 7, 7, 7, 7, 7, 7, 7, 7, 7, 7, 7, 7, 8, 8, 8, 8, 8, 8, 8, 8, 8, 8, 8, 8, 8, 8, 8, 8, 8, 8, 8, 8, 8, 8, 8, 8, 8, 8, 8, 8, 8, 8, 8, 8, 8, 8, 8, 8, 8, 8, 8, 8, 8, 8, 8, 8, 8, 8, 8, 8, 8, 8, 8, 8, 8, 8, 8, 8, 8, 8, 8, 8, 8, 8, 8, 8, 8, 8, 8, 8, 8, 8, 8, 8, 8, 8, 8, 8, 8, 8, 8, 8, 8, 8, 8, 8, 8, 8, 8, 8, 8, 8, 8, 8, 8, 8, 8, 8, 8, 8, 8, 8, 8, 8, 8, 8, 8, 8, 8, 8, 8, 8, 8, 8, 8, 8, 8, 8, 8, 8, 8, 8, 8, 8, 8, 8, 8, 8, 8, 8]) (.u (.conv .u8) (.v 0)))))]))))))
noncomputable def k_bits_Len64 : Known Try.prog := known mixedOk [] (by decide) [] plTypes plOk inFuncs insOk 6 ⟨79, [(.a (.ck (.int .u64)))], (.c (.a (.ck (.int .i64))))⟩ (fun args w => Try.call79 args w) tk_bits_Len64 (by kernel_rfl)
theorem k_bits_Len64_f : k_bits_Len64.con.f = 79 := rfl
theorem k_bits_Len64_F (l : List Sc) : k_bits_Len64.F l = if l.length = 1 then tk_bits_Len64.den (gam (P := Try.prog) []) l [] else none := rfl
def tk_frac_Of : T (List Ex) :=
 (.ite (.o .eq (.v 1) (.i 0))
 (.leaf [(.i 0), (.i 0), (.b false)])
 (.call 47 [(.v 0)] 1
 (.call 47 [(.v 1)] 1
 (.call 46 [(.v 2), (.v 3)] 1
 (.call 47 [(.v 0)] 1
 (.need (.o .ne (.v 4) (.i 0)) (.call 47 [(.v 1)] 1
 (.need (.o .ne (.v 4) (.i 0)) (.call 48 [(.u .not (.o .beq (.o .lt (.v 0) (.i 0)) (.o .lt (.v 1) (.i 0)))), (.o (.quo .u64) (.v 5) (.v 4)), (.o (.quo .u64) (.v 6) (.v 4))] 3
 (.leaf [(.v 7), (.v 8), (.v 9)]))))))))))
noncomputable def k_frac_Of : Known Try.prog := known mixedOk [k_frac_size, k_frac_gcd, k_frac_made] (by decide) [] plTypes plOk inFuncs insOk 6 ⟨27, [(.a (.ck (.int .i64))), (.a (.ck (.int .i64)))], (.t [(.g [(.ck (.int .i64)), (.ck (.int .i64))]), (.a (.ck .bool))])⟩ (fun args w => Try.call27 args w) tk_frac_Of (by kernel_rfl)
theorem k_frac_Of_f : k_frac_Of.con.f = 27 := rfl
theorem k_frac_Of_F (l : List Sc) : k_frac_Of.F l = if l.length = 2 then tk_frac_Of.den (gam (P := Try.prog) [k_frac_size, k_frac_gcd, k_frac_made]) l [] else none := rfl
def tk_simulatorref02_Both : T (List Ex) :=
 (.ite (.o .beq (.v 0) (.v 3))
 (.call 61 [(.v 1), (.v 2), (.v 4), (.v 5)] 2
 (.leaf [(.v 0), (.v 6), (.v 7)]))
 (.call 62 [(.v 1), (.v 2), (.v 4), (.v 5)] 1
 (.ite (.v 6)
 (.call 63 [(.v 4), (.v 5), (.v 1), (.v 2)] 2
 (.leaf [(.v 3), (.v 7), (.v 8)]))
 (.call 63 [(.v 1), (.v 2), (.v 4), (.v 5)] 2
 (.leaf [(.v 0), (.v 7), (.v 8)])))))
noncomputable def k_simulatorref02_Both : Known Try.prog := known mixedOk [k_simulatorref02_Plus, k_simulatorref02_Less, k_simulatorref02_Minus] (by decide) [] plTypes plOk inFuncs insOk 6 ⟨40, [(.g [(.ck .bool), (.ck (.int .u64)), (.ck (.int .u64))]), (.g [(.ck .bool), (.ck (.int .u64)), (.ck (.int .u64))])], (.c (.g [(.ck .bool), (.ck (.int .u64)), (.ck (.int .u64))]))⟩ (fun args w => Try.call40 args w) tk_simulatorref02_Both (by kernel_rfl)
theorem k_simulatorref02_Both_f : k_simulatorref02_Both.con.f = 40 := rfl
theorem k_simulatorref02_Both_F (l : List Sc) : k_simulatorref02_Both.F l = if l.length = 6 then tk_simulatorref02_Both.den (gam (P := Try.prog) [k_simulatorref02_Plus, k_simulatorref02_Less, k_simulatorref02_Minus]) l [] else none := rfl
def tk_frac_signed : T (List Ex) :=
 (.ite (.o .beq (.v 0) (.v 3))
 (.call 69 [(.v 1), (.v 2), (.v 4), (.v 5)] 2
 (.leaf [(.v 0), (.v 6), (.v 7)]))
 (.call 70 [(.v 1), (.v 2), (.v 4), (.v 5)] 3
 (.leaf [(.u .not (.o .beq (.v 0) (.v 8))), (.v 6), (.v 7)])))
noncomputable def k_frac_signed : Known Try.prog := known mixedOk [k_frac_wide_plus, k_frac_wide_minus] (by decide) [] plTypes plOk inFuncs insOk 6 ⟨59, [(.a (.ck .bool)), (.g [(.ck (.int .u64)), (.ck (.int .u64))]), (.a (.ck .bool)), (.g [(.ck (.int .u64)), (.ck (.int .u64))])], (.t [(.a (.ck .bool)), (.g [(.ck (.int .u64)), (.ck (.int .u64))])])⟩ (fun args w => Try.call59 args w) tk_frac_signed (by kernel_rfl)
theorem k_frac_signed_f : k_frac_signed.con.f = 59 := rfl
theorem k_frac_signed_F (l : List Sc) : k_frac_signed.F l = if l.length = 6 then tk_frac_signed.den (gam (P := Try.prog) [k_frac_wide_plus, k_frac_wide_minus]) l [] else none := rfl
def tk_frac_times : T (List Ex) :=
 (.call 71 [(.v 0), (.v 1)] 2
 (.leaf [(.v 2), (.v 3)]))
noncomputable def k_frac_times : Known Try.prog := known mixedOk [k_bits_Mul64] (by decide) [] plTypes plOk inFuncs insOk 6 ⟨60, [(.a (.ck (.int .u64))), (.a (.ck (.int .u64)))], (.c (.g [(.ck (.int .u64)), (.ck (.int .u64))]))⟩ (fun args w => Try.call60 args w) tk_frac_times (by kernel_rfl)
theorem k_frac_times_f : k_frac_times.con.f = 60 := rfl
theorem k_frac_times_F (l : List Sc) : k_frac_times.F l = if l.length = 2 then tk_frac_times.den (gam (P := Try.prog) [k_bits_Mul64]) l [] else none := rfl
def tk_simulatorref02_Divide : T (List Ex) :=
 (.loop [(.i 127), (.i 0), (.i 0), (.i 0), (.i 0)]
 (.ite (.o .le (.i 0) (.v 4))
 (.call 61 [(.v 5), (.v 6), (.v 5), (.v 6)] 2
 (.call 61 [(.v 7), (.v 8), (.v 7), (.v 8)] 2
 (.call 72 [(.v 0), (.v 1), (.v 4)] 1
 (.call 61 [(.v 11), (.v 12), (.i 0), (.v 13)] 2
 (.call 62 [(.v 14), (.v 15), (.v 2), (.v 3)] 1
 (.ite (.u .not (.v 16))
 (.call 63 [(.v 14), (.v 15), (.v 2), (.v 3)] 2
 (.next 0 [(.o (.sub .i64) (.v 4) (.i 1)), (.v 9), (.o (.add .u64) (.v 10) (.i 1)), (.v 17), (.v 18)]))
 (.next 0 [(.o (.sub .i64) (.v 4) (.i 1)), (.v 9), (.v 10), (.v 14), (.v 15)])))))))
 (.leaf [(.v 5), (.v 6), (.v 7), (.v 8)])))
noncomputable def k_simulatorref02_Divide : Known Try.prog := known mixedOk [k_simulatorref02_Plus, k_simulatorref02_bit, k_simulatorref02_Less, k_simulatorref02_Minus] (by decide) [⟨6500003, [(8, 0)], [11, 12, 15, 16, 17, 18, 19, 20, 21, 22, 23, 24, 25, 26, 27, 28, 29, 30, 31, 32, 33, 34, 35, 36, 13, 14], [(4, (0, 0)), (4, (1, 0)), (5, (0, 0)), (5, (1, 0))], []⟩] plTypes plOk inFuncs insOk 6 ⟨65, [(.g [(.ck (.int .u64)), (.ck (.int .u64))]), (.g [(.ck (.int .u64)), (.ck (.int .u64))])], (.t [(.g [(.ck (.int .u64)), (.ck (.int .u64))]), (.g [(.ck (.int .u64)), (.ck (.int .u64))])])⟩ (fun args w => Try.call65 args w) tk_simulatorref02_Divide (by kernel_rfl)
theorem k_simulatorref02_Divide_f : k_simulatorref02_Divide.con.f = 65 := rfl
theorem k_simulatorref02_Divide_F (l : List Sc) : k_simulatorref02_Divide.F l = if l.length = 4 then tk_simulatorref02_Divide.den (gam (P := Try.prog) [k_simulatorref02_Plus, k_simulatorref02_bit, k_simulatorref02_Less, k_simulatorref02_Minus]) l [] else none := rfl
def tk_simulatorref02_Scale : T (List Ex) :=
 (.loop [(.i 63), (.i 0), (.i 0)]
 (.ite (.o .le (.i 0) (.v 3))
 (.call 61 [(.v 4), (.v 5), (.v 4), (.v 5)] 2
 (.call 72 [(.i 0), (.v 2), (.v 3)] 1
 (.ite (.o .eq (.v 8) (.i 1))
 (.call 61 [(.v 6), (.v 7), (.v 0), (.v 1)] 2
 (.next 0 [(.o (.sub .i64) (.v 3) (.i 1)), (.v 9), (.v 10)]))
 (.next 0 [(.o (.sub .i64) (.v 3) (.i 1)), (.v 6), (.v 7)]))))
 (.leaf [(.v 4), (.v 5)])))
noncomputable def k_simulatorref02_Scale : Known Try.prog := known mixedOk [k_simulatorref02_Plus, k_simulatorref02_bit] (by decide) [⟨6800003, [(6, 0)], [8, 9, 12, 13, 14, 15, 16, 17, 18, 19, 20, 21, 22, 10, 11], [(2, (0, 0)), (2, (1, 0))], []⟩] plTypes plOk inFuncs insOk 6 ⟨68, [(.g [(.ck (.int .u64)), (.ck (.int .u64))]), (.a (.ck (.int .u64)))], (.c (.g [(.ck (.int .u64)), (.ck (.int .u64))]))⟩ (fun args w => Try.call68 args w) tk_simulatorref02_Scale (by kernel_rfl)
theorem k_simulatorref02_Scale_f : k_simulatorref02_Scale.con.f = 68 := rfl
theorem k_simulatorref02_Scale_F (l : List Sc) : k_simulatorref02_Scale.F l = if l.length = 3 then tk_simulatorref02_Scale.den (gam (P := Try.prog) [k_simulatorref02_Plus, k_simulatorref02_bit]) l [] else none := rfl
def tk_bits_LeadingZeros64 : T (List Ex) :=
 (.call 79 [(.v 0)] 1
 (.leaf [(.o (.sub .i64) (.i 64) (.v 1))]))
noncomputable def k_bits_LeadingZeros64 : Known Try.prog := known mixedOk [k_bits_Len64] (by decide) [] plTypes plOk inFuncs insOk 6 ⟨78, [(.a (.ck (.int .u64)))], (.c (.a (.ck (.int .i64))))⟩ (fun args w => Try.call78 args w) tk_bits_LeadingZeros64 (by kernel_rfl)
theorem k_bits_LeadingZeros64_f : k_bits_LeadingZeros64.con.f = 78 := rfl
theorem k_bits_LeadingZeros64_F (l : List Sc) : k_bits_LeadingZeros64.F l = if l.length = 1 then tk_bits_LeadingZeros64.den (gam (P := Try.prog) [k_bits_Len64]) l [] else none := rfl
def tk_batch_Means : T (List Ex) :=
 (.ite (.o .lt (.i 1000) (.u .len (.v 0)))
 (.leaf [.nil, (.i 6)])
 (.ite (.o .lt (.v 1) (.i 1))
 (.leaf [.nil, (.i 2)])
 (.ite (.o .lt (.i 100) (.v 1))
 (.leaf [.nil, (.i 2)])
 (.loop [(.i 0)]
 (.ite (.o .lt (.v 2) (.u .len (.v 0)))
 (.need (.o .le (.i 0) (.v 2)) (.need (.o .lt (.v 2) (.u .len (.v 0))) (.ite (.o .lt (.o .idx (.v 0) (.v 2)) (.i (-10000)))
 (.ite (.o .le (.i 0) (.v 2))
 (.leaf [.nil, (.i 2)])
 (.loop [.nil, (.i 0), (.u .len (.v 0))]
 (.ite (.o .le (.v 1) (.v 5))
 (.need (.o .le (.i 0) (.v 1)) (.need (.o .le (.v 1) (.v 5)) (.loop [(.i 0), (.i 0)]
 (.ite (.o .lt (.v 7) (.o (.sub .i64) (.v 1) (.i 0)))
 (.need (.o .le (.i 0) (.v 7)) (.need (.o .lt (.v 7) (.o (.sub .i64) (.v 1) (.i 0))) (.next 2 [(.o (.add .i64) (.v 6) (.o .idx (.v 0) (.o (.add .i64) (.o (.add .i64) (.v 4) (.i 0)) (.v 7)))), (.o (.add .i64) (.v 7) (.i 1))])))
 (.call 27 [(.v 6), (.v 1)] 3
 (.need (.o .le (.u .len (.o .snoc (.v 3) (.o .cons (.v 8) (.o .cons (.v 9) .nil)))) (.i 8796093022208)) (.need (.o .le (.i 0) (.v 1)) (.need (.o .le (.v 1) (.v 5)) (.need (.o .le (.v 5) (.v 5)) (.next 1 [(.o .snoc (.v 3) (.o .cons (.v 8) (.o .cons (.v 9) .nil))), (.o (.add .i64) (.v 4) (.v 1)), (.o (.sub .i64) (.v 5) (.v 1))]))))))))))
 (.leaf [(.v 3), (.i 0)]))))
 (.ite (.o .lt (.i 10000) (.o .idx (.v 0) (.v 2)))
 (.ite (.o .le (.i 0) (.v 2))
 (.leaf [.nil, (.i 2)])
 (.loop [.nil, (.i 0), (.u .len (.v 0))]
 (.ite (.o .le (.v 1) (.v 5))
 (.need (.o .le (.i 0) (.v 1)) (.need (.o .le (.v 1) (.v 5)) (.loop [(.i 0), (.i 0)]
 (.ite (.o .lt (.v 7) (.o (.sub .i64) (.v 1) (.i 0)))
 (.need (.o .le (.i 0) (.v 7)) (.need (.o .lt (.v 7) (.o (.sub .i64) (.v 1) (.i 0))) (.next 2 [(.o (.add .i64) (.v 6) (.o .idx (.v 0) (.o (.add .i64) (.o (.add .i64) (.v 4) (.i 0)) (.v 7)))), (.o (.add .i64) (.v 7) (.i 1))])))
 (.call 27 [(.v 6), (.v 1)] 3
 (.need (.o .le (.u .len (.o .snoc (.v 3) (.o .cons (.v 8) (.o .cons (.v 9) .nil)))) (.i 8796093022208)) (.need (.o .le (.i 0) (.v 1)) (.need (.o .le (.v 1) (.v 5)) (.need (.o .le (.v 5) (.v 5)) (.next 1 [(.o .snoc (.v 3) (.o .cons (.v 8) (.o .cons (.v 9) .nil))), (.o (.add .i64) (.v 4) (.v 1)), (.o (.sub .i64) (.v 5) (.v 1))]))))))))))
 (.leaf [(.v 3), (.i 0)]))))
 (.next 0 [(.o (.add .i64) (.v 2) (.i 1))])))))
 (.loop [.nil, (.i 0), (.u .len (.v 0))]
 (.ite (.o .le (.v 1) (.v 5))
 (.need (.o .le (.i 0) (.v 1)) (.need (.o .le (.v 1) (.v 5)) (.loop [(.i 0), (.i 0)]
 (.ite (.o .lt (.v 7) (.o (.sub .i64) (.v 1) (.i 0)))
 (.need (.o .le (.i 0) (.v 7)) (.need (.o .lt (.v 7) (.o (.sub .i64) (.v 1) (.i 0))) (.next 2 [(.o (.add .i64) (.v 6) (.o .idx (.v 0) (.o (.add .i64) (.o (.add .i64) (.v 4) (.i 0)) (.v 7)))), (.o (.add .i64) (.v 7) (.i 1))])))
 (.call 27 [(.v 6), (.v 1)] 3
 (.need (.o .le (.u .len (.o .snoc (.v 3) (.o .cons (.v 8) (.o .cons (.v 9) .nil)))) (.i 8796093022208)) (.need (.o .le (.i 0) (.v 1)) (.need (.o .le (.v 1) (.v 5)) (.need (.o .le (.v 5) (.v 5)) (.next 1 [(.o .snoc (.v 3) (.o .cons (.v 8) (.o .cons (.v 9) .nil))), (.o (.add .i64) (.v 4) (.v 1)), (.o (.sub .i64) (.v 5) (.v 1))]))))))))))
 (.leaf [(.v 3), (.i 0)]))))))))
noncomputable def k_batch_Means : Known Try.prog := known mixedOk [k_frac_Of] (by decide) [⟨1100010, [(7, 0), (36, 0)], [37, 38, 39, 9, 40, 41, 42, 43], [], []⟩, ⟨1100006, [(6, 31), (0, 3)], [25, 26, 27, 28, 7, 32, 33, 34, 35, 36, 37, 38, 39, 9, 40, 41, 42, 43, 45, 46, 47, 44, 48, 49, 10, 11, 50, 51, 52, 53, 29, 30, 31], [], []⟩, ⟨4500002, [(8, 0)], [9, 10, 5, 11, 12, 13, 14, 15, 16, 17, 4, 18], [], []⟩] plTypes plOk inFuncs insOk 6 ⟨11, [(.a (.row 3 [(.int .i64)] false)), (.a (.ck (.int .i64)))], (.t [(.a (.row 31 [(.int .i64), (.int .i64)] true)), (.a (.ck (.int .i64)))])⟩ (fun args w => Try.call11 args w) tk_batch_Means (by kernel_rfl)
theorem k_batch_Means_f : k_batch_Means.con.f = 11 := rfl
theorem k_batch_Means_F (l : List Sc) : k_batch_Means.F l = if l.length = 2 then tk_batch_Means.den (gam (P := Try.prog) [k_frac_Of]) l [] else none := rfl
def tk_frac_Cmp : T (List Ex) :=
 (.call 55 [(.v 0), (.v 1)] 1
 (.ite (.u .not (.v 4))
 (.call 55 [(.v 2), (.v 3)] 1
 (.ite (.u .not (.v 5))
 (.call 47 [(.i 0)] 1
 (.call 60 [(.v 6), (.i 1)] 2
 (.call 47 [(.i 0)] 1
 (.call 60 [(.v 9), (.i 1)] 2
 (.call 59 [(.b false), (.v 7), (.v 8), (.b true), (.v 10), (.v 11)] 3
 (.ite (.o .and (.o .eq (.v 13) (.i 0)) (.o .and (.o .eq (.v 14) (.i 0)) (.b true)))
 (.leaf [(.i 0)])
 (.ite (.v 12)
 (.leaf [(.i (-1))])
 (.leaf [(.i 1)]))))))))
 (.call 47 [(.i 0)] 1
 (.call 60 [(.v 6), (.u (.conv .u64) (.v 3))] 2
 (.call 47 [(.v 2)] 1
 (.call 60 [(.v 9), (.i 1)] 2
 (.call 59 [(.b false), (.v 7), (.v 8), (.o .le (.i 0) (.v 2)), (.v 10), (.v 11)] 3
 (.ite (.o .and (.o .eq (.v 13) (.i 0)) (.o .and (.o .eq (.v 14) (.i 0)) (.b true)))
 (.leaf [(.i 0)])
 (.ite (.v 12)
 (.leaf [(.i (-1))])
 (.leaf [(.i 1)]))))))))))
 (.call 55 [(.v 2), (.v 3)] 1
 (.ite (.u .not (.v 5))
 (.call 47 [(.v 0)] 1
 (.call 60 [(.v 6), (.i 1)] 2
 (.call 47 [(.i 0)] 1
 (.call 60 [(.v 9), (.u (.conv .u64) (.v 1))] 2
 (.call 59 [(.o .lt (.v 0) (.i 0)), (.v 7), (.v 8), (.b true), (.v 10), (.v 11)] 3
 (.ite (.o .and (.o .eq (.v 13) (.i 0)) (.o .and (.o .eq (.v 14) (.i 0)) (.b true)))
 (.leaf [(.i 0)])
 (.ite (.v 12)
 (.leaf [(.i (-1))])
 (.leaf [(.i 1)]))))))))
 (.call 47 [(.v 0)] 1
 (.call 60 [(.v 6), (.u (.conv .u64) (.v 3))] 2
 (.call 47 [(.v 2)] 1
 (.call 60 [(.v 9), (.u (.conv .u64) (.v 1))] 2
 (.call 59 [(.o .lt (.v 0) (.i 0)), (.v 7), (.v 8), (.o .le (.i 0) (.v 2)), (.v 10), (.v 11)] 3
 (.ite (.o .and (.o .eq (.v 13) (.i 0)) (.o .and (.o .eq (.v 14) (.i 0)) (.b true)))
 (.leaf [(.i 0)])
 (.ite (.v 12)
 (.leaf [(.i (-1))])
 (.leaf [(.i 1)]))))))))))))
noncomputable def k_frac_Cmp : Known Try.prog := known mixedOk [k_frac_Valid, k_frac_size, k_frac_times, k_frac_signed] (by decide) [] plTypes plOk inFuncs insOk 6 ⟨38, [(.g [(.ck (.int .i64)), (.ck (.int .i64))]), (.g [(.ck (.int .i64)), (.ck (.int .i64))])], (.c (.a (.ck (.int .i64))))⟩ (fun args w => Try.call38 args w) tk_frac_Cmp (by kernel_rfl)
theorem k_frac_Cmp_f : k_frac_Cmp.con.f = 38 := rfl
theorem k_frac_Cmp_F (l : List Sc) : k_frac_Cmp.F l = if l.length = 4 then tk_frac_Cmp.den (gam (P := Try.prog) [k_frac_Valid, k_frac_size, k_frac_times, k_frac_signed]) l [] else none := rfl
def tk_frac_product : T (List Ex) :=
 (.call 46 [(.v 1), (.v 4)] 1
 (.call 46 [(.v 3), (.v 2)] 1
 (.need (.o .ne (.v 5) (.i 0)) (.need (.o .ne (.v 6) (.i 0)) (.call 60 [(.o (.quo .u64) (.v 1) (.v 5)), (.o (.quo .u64) (.v 3) (.v 6))] 2
 (.need (.o .ne (.v 6) (.i 0)) (.need (.o .ne (.v 5) (.i 0)) (.call 60 [(.o (.quo .u64) (.v 2) (.v 6)), (.o (.quo .u64) (.v 4) (.v 5))] 2
 (.ite (.o .ne (.v 7) (.i 0))
 (.leaf [(.i 0), (.i 0), (.b false)])
 (.ite (.o .ne (.v 9) (.i 0))
 (.leaf [(.i 0), (.i 0), (.b false)])
 (.ite (.v 0)
 (.call 48 [(.o .ne (.v 8) (.i 0)), (.v 8), (.v 10)] 3
 (.leaf [(.v 11), (.v 12), (.v 13)]))
 (.call 48 [(.b false), (.v 8), (.v 10)] 3
 (.leaf [(.v 11), (.v 12), (.v 13)])))))))))))))
noncomputable def k_frac_product : Known Try.prog := known mixedOk [k_frac_gcd, k_frac_times, k_frac_made] (by decide) [] plTypes plOk inFuncs insOk 6 ⟨56, [(.a (.ck .bool)), (.a (.ck (.int .u64))), (.a (.ck (.int .u64))), (.a (.ck (.int .u64))), (.a (.ck (.int .u64)))], (.t [(.g [(.ck (.int .i64)), (.ck (.int .i64))]), (.a (.ck .bool))])⟩ (fun args w => Try.call56 args w) tk_frac_product (by kernel_rfl)
theorem k_frac_product_f : k_frac_product.con.f = 56 := rfl
theorem k_frac_product_F (l : List Sc) : k_frac_product.F l = if l.length = 5 then tk_frac_product.den (gam (P := Try.prog) [k_frac_gcd, k_frac_times, k_frac_made]) l [] else none := rfl
def tk_simulatorref02_Times : T (List Ex) :=
 (.call 68 [(.i 0), (.v 0), (.v 1)] 2
 (.leaf [(.v 2), (.v 3)]))
noncomputable def k_simulatorref02_Times : Known Try.prog := known mixedOk [k_simulatorref02_Scale] (by decide) [] plTypes plOk inFuncs insOk 6 ⟨58, [(.a (.ck (.int .u64))), (.a (.ck (.int .u64)))], (.c (.g [(.ck (.int .u64)), (.ck (.int .u64))]))⟩ (fun args w => Try.call58 args w) tk_simulatorref02_Times (by kernel_rfl)
theorem k_simulatorref02_Times_f : k_simulatorref02_Times.con.f = 58 := rfl
theorem k_simulatorref02_Times_F (l : List Sc) : k_simulatorref02_Times.F l = if l.length = 2 then tk_simulatorref02_Times.den (gam (P := Try.prog) [k_simulatorref02_Scale]) l [] else none := rfl
def tk_simulatorref02_common : T (List Ex) :=
 (.loop [(.v 0), (.v 1), (.v 2), (.v 3)]
 (.ite (.u .not (.o .and (.o .eq (.v 6) (.i 0)) (.o .and (.o .eq (.v 7) (.i 0)) (.b true))))
 (.call 65 [(.v 4), (.v 5), (.v 6), (.v 7)] 4
 (.next 0 [(.v 6), (.v 7), (.v 10), (.v 11)]))
 (.leaf [(.v 4), (.v 5)])))
noncomputable def k_simulatorref02_common : Known Try.prog := known mixedOk [k_simulatorref02_Divide] (by decide) [⟨6400001, [], [7, 8, 9, 11, 12, 13, 10, 14, 15, 5, 6, 16, 17], [(0, (0, 0)), (0, (1, 0)), (1, (0, 0)), (1, (1, 0))], []⟩] plTypes plOk inFuncs insOk 6 ⟨64, [(.g [(.ck (.int .u64)), (.ck (.int .u64))]), (.g [(.ck (.int .u64)), (.ck (.int .u64))])], (.c (.g [(.ck (.int .u64)), (.ck (.int .u64))]))⟩ (fun args w => Try.call64 args w) tk_simulatorref02_common (by kernel_rfl)
theorem k_simulatorref02_common_f : k_simulatorref02_common.con.f = 64 := rfl
theorem k_simulatorref02_common_F (l : List Sc) : k_simulatorref02_common.F l = if l.length = 4 then tk_simulatorref02_common.den (gam (P := Try.prog) [k_simulatorref02_Divide]) l [] else none := rfl
def tk_bits_Div64 : T (List Ex) :=
 (.ite (.o .eq (.v 2) (.i 0))
 (.fail "op")
 (.ite (.o .le (.v 2) (.v 0))
 (.fail "op")
 (.ite (.o .eq (.v 0) (.i 0))
 (.need (.o .ne (.v 2) (.i 0)) (.need (.o .ne (.v 2) (.i 0)) (.leaf [(.o (.quo .u64) (.v 1) (.v 2)), (.o (.rem .u64) (.v 1) (.v 2))])))
 (.call 78 [(.v 2)] 1
 (.need (.o .le (.i 0) (.u (.conv .u64) (.v 3))) (.need (.o .le (.i 0) (.u (.conv .u64) (.v 3))) (.need (.o .le (.i 0) (.o (.sub .u64) (.i 64) (.u (.conv .u64) (.v 3)))) (.need (.o .le (.i 0) (.u (.conv .u64) (.v 3))) (.need (.o .ne (.o (.shr .u64) (.o (.shl .u64) (.v 2) (.u (.conv .u64) (.v 3))) (.i 32)) (.i 0)) (.loop [(.o (.quo .u64) (.o (.bor .u64) (.o (.shl .u64) (.v 0) (.u (.conv .u64) (.v 3))) (.o (.shr .u64) (.v 1) (.o (.sub .u64) (.i 64) (.u (.conv .u64) (.v 3))))) (.o (.shr .u64) (.o (.shl .u64) (.v 2) (.u (.conv .u64) (.v 3))) (.i 32))), (.o (.sub .u64) (.o (.bor .u64) (.o (.shl .u64) (.v 0) (.u (.conv .u64) (.v 3))) (.o (.shr .u64) (.v 1) (.o (.sub .u64) (.i 64) (.u (.conv .u64) (.v 3))))) (.o (.mul .u64) (.o (.quo .u64) (.o (.bor .u64) (.o (.shl .u64) (.v 0) (.u (.conv .u64) (.v 3))) (.o (.shr .u64) (.v 1) (.o (.sub .u64) (.i 64) (.u (.conv .u64) (.v 3))))) (.o (.shr .u64) (.o (.shl .u64) (.v 2) (.u (.conv .u64) (.v 3))) (.i 32))) (.o (.shr .u64) (.o (.shl .u64) (.v 2) (.u (.conv .u64) (.v 3))) (.i 32))))]
 (.ite (.o .le (.i 4294967296) (.v 4))
 (.ite (.o .le (.i 4294967296) (.o (.add .u64) (.v 5) (.o (.shr .u64) (.o (.shl .u64) (.v 2) (.u (.conv .u64) (.v 3))) (.i 32))))
 (.need (.o .ne (.o (.shr .u64) (.o (.shl .u64) (.v 2) (.u (.conv .u64) (.v 3))) (.i 32)) (.i 0)) (.loop [(.o (.quo .u64) (.o (.sub .u64) (.o (.add .u64) (.o (.mul .u64) (.o (.bor .u64) (.o (.shl .u64) (.v 0) (.u (.conv .u64) (.v 3))) (.o (.shr .u64) (.v 1) (.o (.sub .u64) (.i 64) (.u (.conv .u64) (.v 3))))) (.i 4294967296)) (.o (.shr .u64) (.o (.shl .u64) (.v 1) (.u (.conv .u64) (.v 3))) (.i 32))) (.o (.mul .u64) (.o (.sub .u64) (.v 4) (.i 1)) (.o (.shl .u64) (.v 2) (.u (.conv .u64) (.v 3))))) (.o (.shr .u64) (.o (.shl .u64) (.v 2) (.u (.conv .u64) (.v 3))) (.i 32))), (.o (.sub .u64) (.o (.sub .u64) (.o (.add .u64) (.o (.mul .u64) (.o (.bor .u64) (.o (.shl .u64) (.v 0) (.u (.conv .u64) (.v 3))) (.o (.shr .u64) (.v 1) (.o (.sub .u64) (.i 64) (.u (.conv .u64) (.v 3))))) (.i 4294967296)) (.o (.shr .u64) (.o (.shl .u64) (.v 1) (.u (.conv .u64) (.v 3))) (.i 32))) (.o (.mul .u64) (.o (.sub .u64) (.v 4) (.i 1)) (.o (.shl .u64) (.v 2) (.u (.conv .u64) (.v 3))))) (.o (.mul .u64) (.o (.quo .u64) (.o (.sub .u64) (.o (.add .u64) (.o (.mul .u64) (.o (.bor .u64) (.o (.shl .u64) (.v 0) (.u (.conv .u64) (.v 3))) (.o (.shr .u64) (.v 1) (.o (.sub .u64) (.i 64) (.u (.conv .u64) (.v 3))))) (.i 4294967296)) (.o (.shr .u64) (.o (.shl .u64) (.v 1) (.u (.conv .u64) (.v 3))) (.i 32))) (.o (.mul .u64) (.o (.sub .u64) (.v 4) (.i 1)) (.o (.shl .u64) (.v 2) (.u (.conv .u64) (.v 3))))) (.o (.shr .u64) (.o (.shl .u64) (.v 2) (.u (.conv .u64) (.v 3))) (.i 32))) (.o (.shr .u64) (.o (.shl .u64) (.v 2) (.u (.conv .u64) (.v 3))) (.i 32))))]
 (.ite (.o .le (.i 4294967296) (.v 6))
 (.ite (.o .le (.i 4294967296) (.o (.add .u64) (.v 7) (.o (.shr .u64) (.o (.shl .u64) (.v 2) (.u (.conv .u64) (.v 3))) (.i 32))))
 (.need (.o .le (.i 0) (.u (.conv .u64) (.v 3))) (.leaf [(.o (.add .u64) (.o (.mul .u64) (.o (.sub .u64) (.v 4) (.i 1)) (.i 4294967296)) (.o (.sub .u64) (.v 6) (.i 1))), (.o (.shr .u64) (.o (.sub .u64) (.o (.add .u64) (.o (.mul .u64) (.o (.sub .u64) (.o (.add .u64) (.o (.mul .u64) (.o (.bor .u64) (.o (.shl .u64) (.v 0) (.u (.conv .u64) (.v 3))) (.o (.shr .u64) (.v 1) (.o (.sub .u64) (.i 64) (.u (.conv .u64) (.v 3))))) (.i 4294967296)) (.o (.shr .u64) (.o (.shl .u64) (.v 1) (.u (.conv .u64) (.v 3))) (.i 32))) (.o (.mul .u64) (.o (.sub .u64) (.v 4) (.i 1)) (.o (.shl .u64) (.v 2) (.u (.conv .u64) (.v 3))))) (.i 4294967296)) (.o (.band .u64) (.o (.shl .u64) (.v 1) (.u (.conv .u64) (.v 3))) (.i 4294967295))) (.o (.mul .u64) (.o (.sub .u64) (.v 6) (.i 1)) (.o (.shl .u64) (.v 2) (.u (.conv .u64) (.v 3))))) (.u (.conv .u64) (.v 3)))]))
 (.next 1 [(.o (.sub .u64) (.v 6) (.i 1)), (.o (.add .u64) (.v 7) (.o (.shr .u64) (.o (.shl .u64) (.v 2) (.u (.conv .u64) (.v 3))) (.i 32)))]))
 (.ite (.o .lt (.o (.add .u64) (.o (.mul .u64) (.i 4294967296) (.v 7)) (.o (.band .u64) (.o (.shl .u64) (.v 1) (.u (.conv .u64) (.v 3))) (.i 4294967295))) (.o (.mul .u64) (.v 6) (.o (.band .u64) (.o (.shl .u64) (.v 2) (.u (.conv .u64) (.v 3))) (.i 4294967295))))
 (.ite (.o .le (.i 4294967296) (.o (.add .u64) (.v 7) (.o (.shr .u64) (.o (.shl .u64) (.v 2) (.u (.conv .u64) (.v 3))) (.i 32))))
 (.need (.o .le (.i 0) (.u (.conv .u64) (.v 3))) (.leaf [(.o (.add .u64) (.o (.mul .u64) (.o (.sub .u64) (.v 4) (.i 1)) (.i 4294967296)) (.o (.sub .u64) (.v 6) (.i 1))), (.o (.shr .u64) (.o (.sub .u64) (.o (.add .u64) (.o (.mul .u64) (.o (.sub .u64) (.o (.add .u64) (.o (.mul .u64) (.o (.bor .u64) (.o (.shl .u64) (.v 0) (.u (.conv .u64) (.v 3))) (.o (.shr .u64) (.v 1) (.o (.sub .u64) (.i 64) (.u (.conv .u64) (.v 3))))) (.i 4294967296)) (.o (.shr .u64) (.o (.shl .u64) (.v 1) (.u (.conv .u64) (.v 3))) (.i 32))) (.o (.mul .u64) (.o (.sub .u64) (.v 4) (.i 1)) (.o (.shl .u64) (.v 2) (.u (.conv .u64) (.v 3))))) (.i 4294967296)) (.o (.band .u64) (.o (.shl .u64) (.v 1) (.u (.conv .u64) (.v 3))) (.i 4294967295))) (.o (.mul .u64) (.o (.sub .u64) (.v 6) (.i 1)) (.o (.shl .u64) (.v 2) (.u (.conv .u64) (.v 3))))) (.u (.conv .u64) (.v 3)))]))
 (.next 1 [(.o (.sub .u64) (.v 6) (.i 1)), (.o (.add .u64) (.v 7) (.o (.shr .u64) (.o (.shl .u64) (.v 2) (.u (.conv .u64) (.v 3))) (.i 32)))]))
 (.need (.o .le (.i 0) (.u (.conv .u64) (.v 3))) (.leaf [(.o (.add .u64) (.o (.mul .u64) (.o (.sub .u64) (.v 4) (.i 1)) (.i 4294967296)) (.v 6)), (.o (.shr .u64) (.o (.sub .u64) (.o (.add .u64) (.o (.mul .u64) (.o (.sub .u64) (.o (.add .u64) (.o (.mul .u64) (.o (.bor .u64) (.o (.shl .u64) (.v 0) (.u (.conv .u64) (.v 3))) (.o (.shr .u64) (.v 1) (.o (.sub .u64) (.i 64) (.u (.conv .u64) (.v 3))))) (.i 4294967296)) (.o (.shr .u64) (.o (.shl .u64) (.v 1) (.u (.conv .u64) (.v 3))) (.i 32))) (.o (.mul .u64) (.o (.sub .u64) (.v 4) (.i 1)) (.o (.shl .u64) (.v 2) (.u (.conv .u64) (.v 3))))) (.i 4294967296)) (.o (.band .u64) (.o (.shl .u64) (.v 1) (.u (.conv .u64) (.v 3))) (.i 4294967295))) (.o (.mul .u64) (.v 6) (.o (.shl .u64) (.v 2) (.u (.conv .u64) (.v 3))))) (.u (.conv .u64) (.v 3)))]))))))
 (.next 0 [(.o (.sub .u64) (.v 4) (.i 1)), (.o (.add .u64) (.v 5) (.o (.shr .u64) (.o (.shl .u64) (.v 2) (.u (.conv .u64) (.v 3))) (.i 32)))]))
 (.ite (.o .lt (.o (.add .u64) (.o (.mul .u64) (.i 4294967296) (.v 5)) (.o (.shr .u64) (.o (.shl .u64) (.v 1) (.u (.conv .u64) (.v 3))) (.i 32))) (.o (.mul .u64) (.v 4) (.o (.band .u64) (.o (.shl .u64) (.v 2) (.u (.conv .u64) (.v 3))) (.i 4294967295))))
 (.ite (.o .le (.i 4294967296) (.o (.add .u64) (.v 5) (.o (.shr .u64) (.o (.shl .u64) (.v 2) (.u (.conv .u64) (.v 3))) (.i 32))))
 (.need (.o .ne (.o (.shr .u64) (.o (.shl .u64) (.v 2) (.u (.conv .u64) (.v 3))) (.i 32)) (.i 0)) (.loop [(.o (.quo .u64) (.o (.sub .u64) (.o (.add .u64) (.o (.mul .u64) (.o (.bor .u64) (.o (.shl .u64) (.v 0) (.u (.conv .u64) (.v 3))) (.o (.shr .u64) (.v 1) (.o (.sub .u64) (.i 64) (.u (.conv .u64) (.v 3))))) (.i 4294967296)) (.o (.shr .u64) (.o (.shl .u64) (.v 1) (.u (.conv .u64) (.v 3))) (.i 32))) (.o (.mul .u64) (.o (.sub .u64) (.v 4) (.i 1)) (.o (.shl .u64) (.v 2) (.u (.conv .u64) (.v 3))))) (.o (.shr .u64) (.o (.shl .u64) (.v 2) (.u (.conv .u64) (.v 3))) (.i 32))), (.o (.sub .u64) (.o (.sub .u64) (.o (.add .u64) (.o (.mul .u64) (.o (.bor .u64) (.o (.shl .u64) (.v 0) (.u (.conv .u64) (.v 3))) (.o (.shr .u64) (.v 1) (.o (.sub .u64) (.i 64) (.u (.conv .u64) (.v 3))))) (.i 4294967296)) (.o (.shr .u64) (.o (.shl .u64) (.v 1) (.u (.conv .u64) (.v 3))) (.i 32))) (.o (.mul .u64) (.o (.sub .u64) (.v 4) (.i 1)) (.o (.shl .u64) (.v 2) (.u (.conv .u64) (.v 3))))) (.o (.mul .u64) (.o (.quo .u64) (.o (.sub .u64) (.o (.add .u64) (.o (.mul .u64) (.o (.bor .u64) (.o (.shl .u64) (.v 0) (.u (.conv .u64) (.v 3))) (.o (.shr .u64) (.v 1) (.o (.sub .u64) (.i 64) (.u (.conv .u64) (.v 3))))) (.i 4294967296)) (.o (.shr .u64) (.o (.shl .u64) (.v 1) (.u (.conv .u64) (.v 3))) (.i 32))) (.o (.mul .u64) (.o (.sub .u64) (.v 4) (.i 1)) (.o (.shl .u64) (.v 2) (.u (.conv .u64) (.v 3))))) (.o (.shr .u64) (.o (.shl .u64) (.v 2) (.u (.conv .u64) (.v 3))) (.i 32))) (.o (.shr .u64) (.o (.shl .u64) (.v 2) (.u (.conv .u64) (.v 3))) (.i 32))))]
 (.ite (.o .le (.i 4294967296) (.v 6))
 (.ite (.o .le (.i 4294967296) (.o (.add .u64) (.v 7) (.o (.shr .u64) (.o (.shl .u64) (.v 2) (.u (.conv .u64) (.v 3))) (.i 32))))
 (.need (.o .le (.i 0) (.u (.conv .u64) (.v 3))) (.leaf [(.o (.add .u64) (.o (.mul .u64) (.o (.sub .u64) (.v 4) (.i 1)) (.i 4294967296)) (.o (.sub .u64) (.v 6) (.i 1))), (.o (.shr .u64) (.o (.sub .u64) (.o (.add .u64) (.o (.mul .u64) (.o (.sub .u64) (.o (.add .u64) (.o (.mul .u64) (.o (.bor .u64) (.o (.shl .u64) (.v 0) (.u (.conv .u64) (.v 3))) (.o (.shr .u64) (.v 1) (.o (.sub .u64) (.i 64) (.u (.conv .u64) (.v 3))))) (.i 4294967296)) (.o (.shr .u64) (.o (.shl .u64) (.v 1) (.u (.conv .u64) (.v 3))) (.i 32))) (.o (.mul .u64) (.o (.sub .u64) (.v 4) (.i 1)) (.o (.shl .u64) (.v 2) (.u (.conv .u64) (.v 3))))) (.i 4294967296)) (.o (.band .u64) (.o (.shl .u64) (.v 1) (.u (.conv .u64) (.v 3))) (.i 4294967295))) (.o (.mul .u64) (.o (.sub .u64) (.v 6) (.i 1)) (.o (.shl .u64) (.v 2) (.u (.conv .u64) (.v 3))))) (.u (.conv .u64) (.v 3)))]))
 (.next 1 [(.o (.sub .u64) (.v 6) (.i 1)), (.o (.add .u64) (.v 7) (.o (.shr .u64) (.o (.shl .u64) (.v 2) (.u (.conv .u64) (.v 3))) (.i 32)))]))
 (.ite (.o .lt (.o (.add .u64) (.o (.mul .u64) (.i 4294967296) (.v 7)) (.o (.band .u64) (.o (.shl .u64) (.v 1) (.u (.conv .u64) (.v 3))) (.i 4294967295))) (.o (.mul .u64) (.v 6) (.o (.band .u64) (.o (.shl .u64) (.v 2) (.u (.conv .u64) (.v 3))) (.i 4294967295))))
 (.ite (.o .le (.i 4294967296) (.o (.add .u64) (.v 7) (.o (.shr .u64) (.o (.shl .u64) (.v 2) (.u (.conv .u64) (.v 3))) (.i 32))))
 (.need (.o .le (.i 0) (.u (.conv .u64) (.v 3))) (.leaf [(.o (.add .u64) (.o (.mul .u64) (.o (.sub .u64) (.v 4) (.i 1)) (.i 4294967296)) (.o (.sub .u64) (.v 6) (.i 1))), (.o (.shr .u64) (.o (.sub .u64) (.o (.add .u64) (.o (.mul .u64) (.o (.sub .u64) (.o (.add .u64) (.o (.mul .u64) (.o (.bor .u64) (.o (.shl .u64) (.v 0) (.u (.conv .u64) (.v 3))) (.o (.shr .u64) (.v 1) (.o (.sub .u64) (.i 64) (.u (.conv .u64) (.v 3))))) (.i 4294967296)) (.o (.shr .u64) (.o (.shl .u64) (.v 1) (.u (.conv .u64) (.v 3))) (.i 32))) (.o (.mul .u64) (.o (.sub .u64) (.v 4) (.i 1)) (.o (.shl .u64) (.v 2) (.u (.conv .u64) (.v 3))))) (.i 4294967296)) (.o (.band .u64) (.o (.shl .u64) (.v 1) (.u (.conv .u64) (.v 3))) (.i 4294967295))) (.o (.mul .u64) (.o (.sub .u64) (.v 6) (.i 1)) (.o (.shl .u64) (.v 2) (.u (.conv .u64) (.v 3))))) (.u (.conv .u64) (.v 3)))]))
 (.next 1 [(.o (.sub .u64) (.v 6) (.i 1)), (.o (.add .u64) (.v 7) (.o (.shr .u64) (.o (.shl .u64) (.v 2) (.u (.conv .u64) (.v 3))) (.i 32)))]))
 (.need (.o .le (.i 0) (.u (.conv .u64) (.v 3))) (.leaf [(.o (.add .u64) (.o (.mul .u64) (.o (.sub .u64) (.v 4) (.i 1)) (.i 4294967296)) (.v 6)), (.o (.shr .u64) (.o (.sub .u64) (.o (.add .u64) (.o (.mul .u64) (.o (.sub .u64) (.o (.add .u64) (.o (.mul .u64) (.o (.bor .u64) (.o (.shl .u64) (.v 0) (.u (.conv .u64) (.v 3))) (.o (.shr .u64) (.v 1) (.o (.sub .u64) (.i 64) (.u (.conv .u64) (.v 3))))) (.i 4294967296)) (.o (.shr .u64) (.o (.shl .u64) (.v 1) (.u (.conv .u64) (.v 3))) (.i 32))) (.o (.mul .u64) (.o (.sub .u64) (.v 4) (.i 1)) (.o (.shl .u64) (.v 2) (.u (.conv .u64) (.v 3))))) (.i 4294967296)) (.o (.band .u64) (.o (.shl .u64) (.v 1) (.u (.conv .u64) (.v 3))) (.i 4294967295))) (.o (.mul .u64) (.v 6) (.o (.shl .u64) (.v 2) (.u (.conv .u64) (.v 3))))) (.u (.conv .u64) (.v 3)))]))))))
 (.next 0 [(.o (.sub .u64) (.v 4) (.i 1)), (.o (.add .u64) (.v 5) (.o (.shr .u64) (.o (.shl .u64) (.v 2) (.u (.conv .u64) (.v 3))) (.i 32)))]))
 (.need (.o .ne (.o (.shr .u64) (.o (.shl .u64) (.v 2) (.u (.conv .u64) (.v 3))) (.i 32)) (.i 0)) (.loop [(.o (.quo .u64) (.o (.sub .u64) (.o (.add .u64) (.o (.mul .u64) (.o (.bor .u64) (.o (.shl .u64) (.v 0) (.u (.conv .u64) (.v 3))) (.o (.shr .u64) (.v 1) (.o (.sub .u64) (.i 64) (.u (.conv .u64) (.v 3))))) (.i 4294967296)) (.o (.shr .u64) (.o (.shl .u64) (.v 1) (.u (.conv .u64) (.v 3))) (.i 32))) (.o (.mul .u64) (.v 4) (.o (.shl .u64) (.v 2) (.u (.conv .u64) (.v 3))))) (.o (.shr .u64) (.o (.shl .u64) (.v 2) (.u (.conv .u64) (.v 3))) (.i 32))), (.o (.sub .u64) (.o (.sub .u64) (.o (.add .u64) (.o (.mul .u64) (.o (.bor .u64) (.o (.shl .u64) (.v 0) (.u (.conv .u64) (.v 3))) (.o (.shr .u64) (.v 1) (.o (.sub .u64) (.i 64) (.u (.conv .u64) (.v 3))))) (.i 4294967296)) (.o (.shr .u64) (.o (.shl .u64) (.v 1) (.u (.conv .u64) (.v 3))) (.i 32))) (.o (.mul .u64) (.v 4) (.o (.shl .u64) (.v 2) (.u (.conv .u64) (.v 3))))) (.o (.mul .u64) (.o (.quo .u64) (.o (.sub .u64) (.o (.add .u64) (.o (.mul .u64) (.o (.bor .u64) (.o (.shl .u64) (.v 0) (.u (.conv .u64) (.v 3))) (.o (.shr .u64) (.v 1) (.o (.sub .u64) (.i 64) (.u (.conv .u64) (.v 3))))) (.i 4294967296)) (.o (.shr .u64) (.o (.shl .u64) (.v 1) (.u (.conv .u64) (.v 3))) (.i 32))) (.o (.mul .u64) (.v 4) (.o (.shl .u64) (.v 2) (.u (.conv .u64) (.v 3))))) (.o (.shr .u64) (.o (.shl .u64) (.v 2) (.u (.conv .u64) (.v 3))) (.i 32))) (.o (.shr .u64) (.o (.shl .u64) (.v 2) (.u (.conv .u64) (.v 3))) (.i 32))))]
 (.ite (.o .le (.i 4294967296) (.v 6))
 (.ite (.o .le (.i 4294967296) (.o (.add .u64) (.v 7) (.o (.shr .u64) (.o (.shl .u64) (.v 2) (.u (.conv .u64) (.v 3))) (.i 32))))
 (.need (.o .le (.i 0) (.u (.conv .u64) (.v 3))) (.leaf [(.o (.add .u64) (.o (.mul .u64) (.v 4) (.i 4294967296)) (.o (.sub .u64) (.v 6) (.i 1))), (.o (.shr .u64) (.o (.sub .u64) (.o (.add .u64) (.o (.mul .u64) (.o (.sub .u64) (.o (.add .u64) (.o (.mul .u64) (.o (.bor .u64) (.o (.shl .u64) (.v 0) (.u (.conv .u64) (.v 3))) (.o (.shr .u64) (.v 1) (.o (.sub .u64) (.i 64) (.u (.conv .u64) (.v 3))))) (.i 4294967296)) (.o (.shr .u64) (.o (.shl .u64) (.v 1) (.u (.conv .u64) (.v 3))) (.i 32))) (.o (.mul .u64) (.v 4) (.o (.shl .u64) (.v 2) (.u (.conv .u64) (.v 3))))) (.i 4294967296)) (.o (.band .u64) (.o (.shl .u64) (.v 1) (.u (.conv .u64) (.v 3))) (.i 4294967295))) (.o (.mul .u64) (.o (.sub .u64) (.v 6) (.i 1)) (.o (.shl .u64) (.v 2) (.u (.conv .u64) (.v 3))))) (.u (.conv .u64) (.v 3)))]))
 (.next 1 [(.o (.sub .u64) (.v 6) (.i 1)), (.o (.add .u64) (.v 7) (.o (.shr .u64) (.o (.shl .u64) (.v 2) (.u (.conv .u64) (.v 3))) (.i 32)))]))
 (.ite (.o .lt (.o (.add .u64) (.o (.mul .u64) (.i 4294967296) (.v 7)) (.o (.band .u64) (.o (.shl .u64) (.v 1) (.u (.conv .u64) (.v 3))) (.i 4294967295))) (.o (.mul .u64) (.v 6) (.o (.band .u64) (.o (.shl .u64) (.v 2) (.u (.conv .u64) (.v 3))) (.i 4294967295))))
 (.ite (.o .le (.i 4294967296) (.o (.add .u64) (.v 7) (.o (.shr .u64) (.o (.shl .u64) (.v 2) (.u (.conv .u64) (.v 3))) (.i 32))))
 (.need (.o .le (.i 0) (.u (.conv .u64) (.v 3))) (.leaf [(.o (.add .u64) (.o (.mul .u64) (.v 4) (.i 4294967296)) (.o (.sub .u64) (.v 6) (.i 1))), (.o (.shr .u64) (.o (.sub .u64) (.o (.add .u64) (.o (.mul .u64) (.o (.sub .u64) (.o (.add .u64) (.o (.mul .u64) (.o (.bor .u64) (.o (.shl .u64) (.v 0) (.u (.conv .u64) (.v 3))) (.o (.shr .u64) (.v 1) (.o (.sub .u64) (.i 64) (.u (.conv .u64) (.v 3))))) (.i 4294967296)) (.o (.shr .u64) (.o (.shl .u64) (.v 1) (.u (.conv .u64) (.v 3))) (.i 32))) (.o (.mul .u64) (.v 4) (.o (.shl .u64) (.v 2) (.u (.conv .u64) (.v 3))))) (.i 4294967296)) (.o (.band .u64) (.o (.shl .u64) (.v 1) (.u (.conv .u64) (.v 3))) (.i 4294967295))) (.o (.mul .u64) (.o (.sub .u64) (.v 6) (.i 1)) (.o (.shl .u64) (.v 2) (.u (.conv .u64) (.v 3))))) (.u (.conv .u64) (.v 3)))]))
 (.next 1 [(.o (.sub .u64) (.v 6) (.i 1)), (.o (.add .u64) (.v 7) (.o (.shr .u64) (.o (.shl .u64) (.v 2) (.u (.conv .u64) (.v 3))) (.i 32)))]))
 (.need (.o .le (.i 0) (.u (.conv .u64) (.v 3))) (.leaf [(.o (.add .u64) (.o (.mul .u64) (.v 4) (.i 4294967296)) (.v 6)), (.o (.shr .u64) (.o (.sub .u64) (.o (.add .u64) (.o (.mul .u64) (.o (.sub .u64) (.o (.add .u64) (.o (.mul .u64) (.o (.bor .u64) (.o (.shl .u64) (.v 0) (.u (.conv .u64) (.v 3))) (.o (.shr .u64) (.v 1) (.o (.sub .u64) (.i 64) (.u (.conv .u64) (.v 3))))) (.i 4294967296)) (.o (.shr .u64) (.o (.shl .u64) (.v 1) (.u (.conv .u64) (.v 3))) (.i 32))) (.o (.mul .u64) (.v 4) (.o (.shl .u64) (.v 2) (.u (.conv .u64) (.v 3))))) (.i 4294967296)) (.o (.band .u64) (.o (.shl .u64) (.v 1) (.u (.conv .u64) (.v 3))) (.i 4294967295))) (.o (.mul .u64) (.v 6) (.o (.shl .u64) (.v 2) (.u (.conv .u64) (.v 3))))) (.u (.conv .u64) (.v 3)))]))))))))))))))))))
noncomputable def k_bits_Div64 : Known Try.prog := known mixedOk [k_bits_LeadingZeros64] (by decide) [⟨7700024, [(18, 0), (16, 0)], [102, 103, 104, 105, 106, 107, 108, 109, 110, 111, 112, 113, 114, 115, 116, 117, 118, 119, 120], [], []⟩, ⟨7700017, [(15, 0), (16, 0)], [67, 68, 69, 70, 71, 72, 73, 74, 75, 76, 77, 78, 79, 80, 81, 82, 83, 84, 85], [], []⟩] plTypes plOk inFuncs insOk 6 ⟨77, [(.a (.ck (.int .u64))), (.a (.ck (.int .u64))), (.a (.ck (.int .u64)))], (.t [(.a (.ck (.int .u64))), (.a (.ck (.int .u64)))])⟩ (fun args w => Try.call77 args w) tk_bits_Div64 (by kernel_rfl)
theorem k_bits_Div64_f : k_bits_Div64.con.f = 77 := rfl
theorem k_bits_Div64_F (l : List Sc) : k_bits_Div64.F l = if l.length = 3 then tk_bits_Div64.den (gam (P := Try.prog) [k_bits_LeadingZeros64]) l [] else none := rfl
def tk_frac_Div : T (List Ex) :=
 (.call 55 [(.v 0), (.v 1)] 1
 (.ite (.u .not (.v 4))
 (.leaf [(.i 0), (.i 0), (.b false)])
 (.call 55 [(.v 2), (.v 3)] 1
 (.ite (.u .not (.v 5))
 (.leaf [(.i 0), (.i 0), (.b false)])
 (.ite (.o .eq (.v 2) (.i 0))
 (.leaf [(.i 0), (.i 0), (.b false)])
 (.call 47 [(.v 0)] 1
 (.call 47 [(.v 2)] 1
 (.call 56 [(.u .not (.o .beq (.o .lt (.v 0) (.i 0)) (.o .lt (.v 2) (.i 0)))), (.v 6), (.u (.conv .u64) (.v 1)), (.u (.conv .u64) (.v 3)), (.v 7)] 3
 (.leaf [(.v 8), (.v 9), (.v 10)])))))))))
noncomputable def k_frac_Div : Known Try.prog := known mixedOk [k_frac_Valid, k_frac_size, k_frac_product] (by decide) [] plTypes plOk inFuncs insOk 6 ⟨33, [(.g [(.ck (.int .i64)), (.ck (.int .i64))]), (.g [(.ck (.int .i64)), (.ck (.int .i64))])], (.t [(.g [(.ck (.int .i64)), (.ck (.int .i64))]), (.a (.ck .bool))])⟩ (fun args w => Try.call33 args w) tk_frac_Div (by kernel_rfl)
theorem k_frac_Div_f : k_frac_Div.con.f = 33 := rfl
theorem k_frac_Div_F (l : List Sc) : k_frac_Div.F l = if l.length = 4 then tk_frac_Div.den (gam (P := Try.prog) [k_frac_Valid, k_frac_size, k_frac_product]) l [] else none := rfl
def tk_simulatorref02_Product : T (List Ex) :=
 (.call 50 [(.v 0)] 1
 (.call 50 [(.v 1)] 1
 (.call 58 [(.v 2), (.v 3)] 2
 (.leaf [(.u .not (.o .beq (.o .lt (.v 0) (.i 0)) (.o .lt (.v 1) (.i 0)))), (.v 4), (.v 5)]))))
noncomputable def k_simulatorref02_Product : Known Try.prog := known mixedOk [k_simulatorref02_Size, k_simulatorref02_Times] (by decide) [] plTypes plOk inFuncs insOk 6 ⟨41, [(.a (.ck (.int .i64))), (.a (.ck (.int .i64)))], (.c (.g [(.ck .bool), (.ck (.int .u64)), (.ck (.int .u64))]))⟩ (fun args w => Try.call41 args w) tk_simulatorref02_Product (by kernel_rfl)
theorem k_simulatorref02_Product_f : k_simulatorref02_Product.con.f = 41 := rfl
theorem k_simulatorref02_Product_F (l : List Sc) : k_simulatorref02_Product.F l = if l.length = 2 then tk_simulatorref02_Product.den (gam (P := Try.prog) [k_simulatorref02_Size, k_simulatorref02_Times]) l [] else none := rfl
def tk_simulatorref02_Valid : T (List Ex) :=
 (.ite (.o .lt (.v 1) (.i 1))
 (.leaf [(.b false)])
 (.ite (.o .lt (.i 1000000000000000) (.v 1))
 (.leaf [(.b false)])
 (.ite (.o .lt (.v 0) (.i (-4611686018427387904)))
 (.leaf [(.b false)])
 (.ite (.o .lt (.i 4611686018427387904) (.v 0))
 (.leaf [(.b false)])
 (.call 50 [(.v 0)] 1
 (.call 50 [(.v 1)] 1
 (.call 64 [(.i 0), (.v 2), (.i 0), (.v 3)] 2
 (.leaf [(.o .and (.o .eq (.v 4) (.i 0)) (.o .and (.o .eq (.v 5) (.i 1)) (.b true)))]))))))))
noncomputable def k_simulatorref02_Valid : Known Try.prog := known mixedOk [k_simulatorref02_Size, k_simulatorref02_common] (by decide) [] plTypes plOk inFuncs insOk 6 ⟨42, [(.g [(.ck (.int .i64)), (.ck (.int .i64))])], (.c (.a (.ck .bool)))⟩ (fun args w => Try.call42 args w) tk_simulatorref02_Valid (by kernel_rfl)
theorem k_simulatorref02_Valid_f : k_simulatorref02_Valid.con.f = 42 := rfl
theorem k_simulatorref02_Valid_F (l : List Sc) : k_simulatorref02_Valid.F l = if l.length = 2 then tk_simulatorref02_Valid.den (gam (P := Try.prog) [k_simulatorref02_Size, k_simulatorref02_common]) l [] else none := rfl
def tk_simulatorref02_Made : T (List Ex) :=
 (.call 64 [(.v 1), (.v 2), (.v 3), (.v 4)] 2
 (.call 65 [(.v 1), (.v 2), (.v 5), (.v 6)] 4
 (.call 65 [(.v 3), (.v 4), (.v 5), (.v 6)] 4
 (.ite (.o .ne (.v 7) (.i 0))
 (.leaf [(.i 0), (.i 0), (.b false)])
 (.ite (.o .lt (.i 4611686018427387904) (.v 8))
 (.leaf [(.i 0), (.i 0), (.b false)])
 (.ite (.o .ne (.v 11) (.i 0))
 (.leaf [(.i 0), (.i 0), (.b false)])
 (.ite (.o .lt (.i 1000000000000000) (.v 12))
 (.leaf [(.i 0), (.i 0), (.b false)])
 (.ite (.v 0)
 (.leaf [(.o (.sub .i64) (.i 0) (.u (.conv .i64) (.v 8))), (.u (.conv .i64) (.v 12)), (.b true)])
 (.leaf [(.u (.conv .i64) (.v 8)), (.u (.conv .i64) (.v 12)), (.b true)])))))))))
noncomputable def k_simulatorref02_Made : Known Try.prog := known mixedOk [k_simulatorref02_common, k_simulatorref02_Divide] (by decide) [] plTypes plOk inFuncs insOk 6 ⟨49, [(.g [(.ck .bool), (.ck (.int .u64)), (.ck (.int .u64))]), (.g [(.ck (.int .u64)), (.ck (.int .u64))])], (.t [(.g [(.ck (.int .i64)), (.ck (.int .i64))]), (.a (.ck .bool))])⟩ (fun args w => Try.call49 args w) tk_simulatorref02_Made (by kernel_rfl)
theorem k_simulatorref02_Made_f : k_simulatorref02_Made.con.f = 49 := rfl
theorem k_simulatorref02_Made_F (l : List Sc) : k_simulatorref02_Made.F l = if l.length = 5 then tk_simulatorref02_Made.den (gam (P := Try.prog) [k_simulatorref02_common, k_simulatorref02_Divide]) l [] else none := rfl
def tk_frac_Mul : T (List Ex) :=
 (.call 55 [(.v 0), (.v 1)] 1
 (.ite (.u .not (.v 4))
 (.leaf [(.i 0), (.i 0), (.b false)])
 (.call 55 [(.v 2), (.v 3)] 1
 (.ite (.u .not (.v 5))
 (.leaf [(.i 0), (.i 0), (.b false)])
 (.call 47 [(.v 0)] 1
 (.call 47 [(.v 2)] 1
 (.call 56 [(.u .not (.o .beq (.o .lt (.v 0) (.i 0)) (.o .lt (.v 2) (.i 0)))), (.v 6), (.u (.conv .u64) (.v 1)), (.v 7), (.u (.conv .u64) (.v 3))] 3
 (.leaf [(.v 8), (.v 9), (.v 10)]))))))))
noncomputable def k_frac_Mul : Known Try.prog := known mixedOk [k_frac_Valid, k_frac_size, k_frac_product] (by decide) [] plTypes plOk inFuncs insOk 6 ⟨54, [(.g [(.ck (.int .i64)), (.ck (.int .i64))]), (.g [(.ck (.int .i64)), (.ck (.int .i64))])], (.t [(.g [(.ck (.int .i64)), (.ck (.int .i64))]), (.a (.ck .bool))])⟩ (fun args w => Try.call54 args w) tk_frac_Mul (by kernel_rfl)
theorem k_frac_Mul_f : k_frac_Mul.con.f = 54 := rfl
theorem k_frac_Mul_F (l : List Sc) : k_frac_Mul.F l = if l.length = 4 then tk_frac_Mul.den (gam (P := Try.prog) [k_frac_Valid, k_frac_size, k_frac_product]) l [] else none := rfl
def tk_simulatorref02_Mul : T (List Ex) :=
 (.call 42 [(.v 0), (.v 1)] 1
 (.ite (.u .not (.v 4))
 (.leaf [(.i 0), (.i 0), (.b false)])
 (.call 42 [(.v 2), (.v 3)] 1
 (.ite (.u .not (.v 5))
 (.leaf [(.i 0), (.i 0), (.b false)])
 (.call 41 [(.v 0), (.v 2)] 3
 (.call 50 [(.v 1)] 1
 (.call 50 [(.v 3)] 1
 (.call 58 [(.v 9), (.v 10)] 2
 (.call 49 [(.v 6), (.v 7), (.v 8), (.v 11), (.v 12)] 3
 (.leaf [(.v 13), (.v 14), (.v 15)]))))))))))
noncomputable def k_simulatorref02_Mul : Known Try.prog := known mixedOk [k_simulatorref02_Valid, k_simulatorref02_Product, k_simulatorref02_Size, k_simulatorref02_Times, k_simulatorref02_Made] (by decide) [] plTypes plOk inFuncs insOk 6 ⟨57, [(.g [(.ck (.int .i64)), (.ck (.int .i64))]), (.g [(.ck (.int .i64)), (.ck (.int .i64))])], (.t [(.g [(.ck (.int .i64)), (.ck (.int .i64))]), (.a (.ck .bool))])⟩ (fun args w => Try.call57 args w) tk_simulatorref02_Mul (by kernel_rfl)
theorem k_simulatorref02_Mul_f : k_simulatorref02_Mul.con.f = 57 := rfl
theorem k_simulatorref02_Mul_F (l : List Sc) : k_simulatorref02_Mul.F l = if l.length = 4 then tk_simulatorref02_Mul.den (gam (P := Try.prog) [k_simulatorref02_Valid, k_simulatorref02_Product, k_simulatorref02_Size, k_simulatorref02_Times, k_simulatorref02_Made]) l [] else none := rfl
def tk_frac_wide_mod : T (List Ex) :=
 (.need (.o .ne (.v 2) (.i 0)) (.call 77 [(.o (.rem .u64) (.v 0) (.v 2)), (.v 1), (.v 2)] 2
 (.leaf [(.v 4)])))
noncomputable def k_frac_wide_mod : Known Try.prog := known mixedOk [k_bits_Div64] (by decide) [] plTypes plOk inFuncs insOk 6 ⟨73, [(.g [(.ck (.int .u64)), (.ck (.int .u64))]), (.a (.ck (.int .u64)))], (.c (.a (.ck (.int .u64))))⟩ (fun args w => Try.call73 args w) tk_frac_wide_mod (by kernel_rfl)
theorem k_frac_wide_mod_f : k_frac_wide_mod.con.f = 73 := rfl
theorem k_frac_wide_mod_F (l : List Sc) : k_frac_wide_mod.F l = if l.length = 3 then tk_frac_wide_mod.den (gam (P := Try.prog) [k_bits_Div64]) l [] else none := rfl
def tk_frac_wide_over : T (List Ex) :=
 (.ite (.o .le (.v 2) (.v 0))
 (.leaf [(.i 0), (.b false)])
 (.call 77 [(.v 0), (.v 1), (.v 2)] 2
 (.leaf [(.v 3), (.b true)])))
noncomputable def k_frac_wide_over : Known Try.prog := known mixedOk [k_bits_Div64] (by decide) [] plTypes plOk inFuncs insOk 6 ⟨74, [(.g [(.ck (.int .u64)), (.ck (.int .u64))]), (.a (.ck (.int .u64)))], (.t [(.a (.ck (.int .u64))), (.a (.ck .bool))])⟩ (fun args w => Try.call74 args w) tk_frac_wide_over (by kernel_rfl)
theorem k_frac_wide_over_f : k_frac_wide_over.con.f = 74 := rfl
theorem k_frac_wide_over_F (l : List Sc) : k_frac_wide_over.F l = if l.length = 3 then tk_frac_wide_over.den (gam (P := Try.prog) [k_bits_Div64]) l [] else none := rfl
def tk_simulatorref02_Of : T (List Ex) :=
 (.ite (.o .eq (.v 1) (.i 0))
 (.leaf [(.i 0), (.i 0), (.b false)])
 (.call 50 [(.v 0)] 1
 (.call 50 [(.v 1)] 1
 (.call 49 [(.u .not (.o .beq (.o .lt (.v 0) (.i 0)) (.o .lt (.v 1) (.i 0)))), (.i 0), (.v 2), (.i 0), (.v 3)] 3
 (.leaf [(.v 4), (.v 5), (.v 6)])))))
noncomputable def k_simulatorref02_Of : Known Try.prog := known mixedOk [k_simulatorref02_Size, k_simulatorref02_Made] (by decide) [] plTypes plOk inFuncs insOk 6 ⟨28, [(.a (.ck (.int .i64))), (.a (.ck (.int .i64)))], (.t [(.g [(.ck (.int .i64)), (.ck (.int .i64))]), (.a (.ck .bool))])⟩ (fun args w => Try.call28 args w) tk_simulatorref02_Of (by kernel_rfl)
theorem k_simulatorref02_Of_f : k_simulatorref02_Of.con.f = 28 := rfl
theorem k_simulatorref02_Of_F (l : List Sc) : k_simulatorref02_Of.F l = if l.length = 2 then tk_simulatorref02_Of.den (gam (P := Try.prog) [k_simulatorref02_Size, k_simulatorref02_Made]) l [] else none := rfl
def tk_simulatorref02_Div : T (List Ex) :=
 (.call 42 [(.v 0), (.v 1)] 1
 (.ite (.u .not (.v 4))
 (.leaf [(.i 0), (.i 0), (.b false)])
 (.call 42 [(.v 2), (.v 3)] 1
 (.ite (.u .not (.v 5))
 (.leaf [(.i 0), (.i 0), (.b false)])
 (.ite (.o .eq (.v 2) (.i 0))
 (.leaf [(.i 0), (.i 0), (.b false)])
 (.call 41 [(.v 0), (.v 3)] 3
 (.call 50 [(.v 1)] 1
 (.call 50 [(.v 2)] 1
 (.call 58 [(.v 9), (.v 10)] 2
 (.call 49 [(.u .not (.o .beq (.o .lt (.v 0) (.i 0)) (.o .lt (.v 2) (.i 0)))), (.v 7), (.v 8), (.v 11), (.v 12)] 3
 (.leaf [(.v 13), (.v 14), (.v 15)])))))))))))
noncomputable def k_simulatorref02_Div : Known Try.prog := known mixedOk [k_simulatorref02_Valid, k_simulatorref02_Product, k_simulatorref02_Size, k_simulatorref02_Times, k_simulatorref02_Made] (by decide) [] plTypes plOk inFuncs insOk 6 ⟨37, [(.g [(.ck (.int .i64)), (.ck (.int .i64))]), (.g [(.ck (.int .i64)), (.ck (.int .i64))])], (.t [(.g [(.ck (.int .i64)), (.ck (.int .i64))]), (.a (.ck .bool))])⟩ (fun args w => Try.call37 args w) tk_simulatorref02_Div (by kernel_rfl)
theorem k_simulatorref02_Div_f : k_simulatorref02_Div.con.f = 37 := rfl
theorem k_simulatorref02_Div_F (l : List Sc) : k_simulatorref02_Div.F l = if l.length = 4 then tk_simulatorref02_Div.den (gam (P := Try.prog) [k_simulatorref02_Valid, k_simulatorref02_Product, k_simulatorref02_Size, k_simulatorref02_Times, k_simulatorref02_Made]) l [] else none := rfl
def tk_simulatorref02_usual : T (List Ex) :=
 (.call 42 [(.v 0), (.v 1)] 1
 (.ite (.v 2)
 (.leaf [(.v 0), (.v 1)])
 (.leaf [(.i 0), (.i 1)])))
noncomputable def k_simulatorref02_usual : Known Try.prog := known mixedOk [k_simulatorref02_Valid] (by decide) [] plTypes plOk inFuncs insOk 6 ⟨39, [(.g [(.ck (.int .i64)), (.ck (.int .i64))])], (.c (.g [(.ck (.int .i64)), (.ck (.int .i64))]))⟩ (fun args w => Try.call39 args w) tk_simulatorref02_usual (by kernel_rfl)
theorem k_simulatorref02_usual_f : k_simulatorref02_usual.con.f = 39 := rfl
theorem k_simulatorref02_usual_F (l : List Sc) : k_simulatorref02_usual.F l = if l.length = 2 then tk_simulatorref02_usual.den (gam (P := Try.prog) [k_simulatorref02_Valid]) l [] else none := rfl
def tk_simulatorref02_Add : T (List Ex) :=
 (.call 42 [(.v 0), (.v 1)] 1
 (.ite (.u .not (.v 4))
 (.leaf [(.i 0), (.i 0), (.b false)])
 (.call 42 [(.v 2), (.v 3)] 1
 (.ite (.u .not (.v 5))
 (.leaf [(.i 0), (.i 0), (.b false)])
 (.call 41 [(.v 0), (.v 3)] 3
 (.call 41 [(.v 2), (.v 1)] 3
 (.call 40 [(.v 6), (.v 7), (.v 8), (.v 9), (.v 10), (.v 11)] 3
 (.call 50 [(.v 1)] 1
 (.call 50 [(.v 3)] 1
 (.call 58 [(.v 15), (.v 16)] 2
 (.call 49 [(.v 12), (.v 13), (.v 14), (.v 17), (.v 18)] 3
 (.leaf [(.v 19), (.v 20), (.v 21)]))))))))))))
noncomputable def k_simulatorref02_Add : Known Try.prog := known mixedOk [k_simulatorref02_Valid, k_simulatorref02_Product, k_simulatorref02_Both, k_simulatorref02_Size, k_simulatorref02_Times, k_simulatorref02_Made] (by decide) [] plTypes plOk inFuncs insOk 6 ⟨43, [(.g [(.ck (.int .i64)), (.ck (.int .i64))]), (.g [(.ck (.int .i64)), (.ck (.int .i64))])], (.t [(.g [(.ck (.int .i64)), (.ck (.int .i64))]), (.a (.ck .bool))])⟩ (fun args w => Try.call43 args w) tk_simulatorref02_Add (by kernel_rfl)
theorem k_simulatorref02_Add_f : k_simulatorref02_Add.con.f = 43 := rfl
theorem k_simulatorref02_Add_F (l : List Sc) : k_simulatorref02_Add.F l = if l.length = 4 then tk_simulatorref02_Add.den (gam (P := Try.prog) [k_simulatorref02_Valid, k_simulatorref02_Product, k_simulatorref02_Both, k_simulatorref02_Size, k_simulatorref02_Times, k_simulatorref02_Made]) l [] else none := rfl
def tk_simulatorref02_Sum : T (List Ex) :=
 (.loop [(.i 0), (.i 0), (.i 1)]
 (.ite (.o .lt (.v 1) (.u .len (.v 0)))
 (.need (.o .le (.i 0) (.v 1)) (.need (.o .lt (.v 1) (.u .len (.v 0))) (.call 43 [(.v 2), (.v 3), (.u (.cell 0) (.o .idx (.v 0) (.v 1))), (.u (.cell 1) (.o .idx (.v 0) (.v 1)))] 3
 (.ite (.u .not (.v 6))
 (.leaf [(.i 0), (.i 0), (.b false)])
 (.next 0 [(.o (.add .i64) (.v 1) (.i 1)), (.v 4), (.v 5)])))))
 (.leaf [(.v 2), (.v 3), (.b true)])))
noncomputable def k_simulatorref02_Sum : Known Try.prog := known mixedOk [k_simulatorref02_Add] (by decide) [⟨5200003, [(6, 0)], [8, 9, 10, 11, 15, 16, 17, 18, 19, 20, 14, 21, 22, 5, 23, 24, 25, 3, 12, 13], [(1, (0, 0)), (1, (1, 0))], []⟩] plTypes plOk inFuncs insOk 6 ⟨52, [(.a (.row 31 [(.int .i64), (.int .i64)] true))], (.t [(.g [(.ck (.int .i64)), (.ck (.int .i64))]), (.a (.ck .bool))])⟩ (fun args w => Try.call52 args w) tk_simulatorref02_Sum (by kernel_rfl)
theorem k_simulatorref02_Sum_f : k_simulatorref02_Sum.con.f = 52 := rfl
theorem k_simulatorref02_Sum_F (l : List Sc) : k_simulatorref02_Sum.F l = if l.length = 1 then tk_simulatorref02_Sum.den (gam (P := Try.prog) [k_simulatorref02_Add]) l [] else none := rfl
def tk_frac_sum : T (List Ex) :=
 (.call 55 [(.v 0), (.v 1)] 1
 (.ite (.u .not (.v 5))
 (.leaf [(.i 0), (.i 0), (.b false)])
 (.call 55 [(.v 2), (.v 3)] 1
 (.ite (.u .not (.v 6))
 (.leaf [(.i 0), (.i 0), (.b false)])
 (.call 46 [(.u (.conv .u64) (.v 1)), (.u (.conv .u64) (.v 3))] 1
 (.call 47 [(.v 0)] 1
 (.need (.o .ne (.v 7) (.i 0)) (.call 60 [(.v 8), (.o (.quo .u64) (.u (.conv .u64) (.v 3)) (.v 7))] 2
 (.call 47 [(.v 2)] 1
 (.need (.o .ne (.v 7) (.i 0)) (.call 60 [(.v 11), (.o (.quo .u64) (.u (.conv .u64) (.v 1)) (.v 7))] 2
 (.call 59 [(.o .lt (.v 0) (.i 0)), (.v 9), (.v 10), (.u .not (.o .beq (.o .lt (.v 2) (.i 0)) (.v 4))), (.v 12), (.v 13)] 3
 (.ite (.o .and (.o .eq (.v 15) (.i 0)) (.o .and (.o .eq (.v 16) (.i 0)) (.b true)))
 (.leaf [(.i 0), (.i 1), (.b true)])
 (.call 73 [(.v 15), (.v 16), (.v 7)] 1
 (.call 46 [(.v 17), (.v 7)] 1
 (.call 74 [(.v 15), (.v 16), (.v 18)] 2
 (.need (.o .ne (.v 7) (.i 0)) (.need (.o .ne (.v 18) (.i 0)) (.call 60 [(.o (.quo .u64) (.u (.conv .u64) (.v 1)) (.v 7)), (.o (.quo .u64) (.u (.conv .u64) (.v 3)) (.v 18))] 2
 (.ite (.u .not (.v 20))
 (.leaf [(.i 0), (.i 0), (.b false)])
 (.ite (.o .ne (.v 21) (.i 0))
 (.leaf [(.i 0), (.i 0), (.b false)])
 (.call 48 [(.v 14), (.v 19), (.v 22)] 3
 (.leaf [(.v 23), (.v 24), (.v 25)])))))))))))))))))))))))
noncomputable def k_frac_sum : Known Try.prog := known mixedOk [k_frac_Valid, k_frac_gcd, k_frac_size, k_frac_times, k_frac_signed, k_frac_wide_mod, k_frac_wide_over, k_frac_made] (by decide) [] plTypes plOk inFuncs insOk 6 ⟨67, [(.g [(.ck (.int .i64)), (.ck (.int .i64))]), (.g [(.ck (.int .i64)), (.ck (.int .i64))]), (.a (.ck .bool))], (.t [(.g [(.ck (.int .i64)), (.ck (.int .i64))]), (.a (.ck .bool))])⟩ (fun args w => Try.call67 args w) tk_frac_sum (by kernel_rfl)
theorem k_frac_sum_f : k_frac_sum.con.f = 67 := rfl
theorem k_frac_sum_F (l : List Sc) : k_frac_sum.F l = if l.length = 5 then tk_frac_sum.den (gam (P := Try.prog) [k_frac_Valid, k_frac_gcd, k_frac_size, k_frac_times, k_frac_signed, k_frac_wide_mod, k_frac_wide_over, k_frac_made]) l [] else none := rfl
def tk_simulatorref48_Means : T (List Ex) :=
 (.ite (.o .lt (.i 1000) (.u .len (.v 0)))
 (.leaf [.nil, (.i 6)])
 (.ite (.o .lt (.v 1) (.i 1))
 (.leaf [.nil, (.i 2)])
 (.ite (.o .lt (.i 100) (.v 1))
 (.leaf [.nil, (.i 2)])
 (.loop [(.i 0)]
 (.ite (.o .lt (.v 2) (.u .len (.v 0)))
 (.need (.o .le (.i 0) (.v 2)) (.need (.o .lt (.v 2) (.u .len (.v 0))) (.ite (.o .lt (.o .idx (.v 0) (.v 2)) (.i (-10000)))
 (.leaf [.nil, (.i 2)])
 (.need (.o .le (.i 0) (.v 2)) (.need (.o .lt (.v 2) (.u .len (.v 0))) (.ite (.o .lt (.i 10000) (.o .idx (.v 0) (.v 2)))
 (.leaf [.nil, (.i 2)])
 (.next 0 [(.o (.add .i64) (.v 2) (.i 1))])))))))
 (.loop [.nil, (.i 0)]
 (.ite (.o .le (.o (.add .i64) (.v 4) (.v 1)) (.u .len (.v 0)))
 (.loop [(.i 0), (.v 4)]
 (.ite (.o .lt (.v 6) (.o (.add .i64) (.v 4) (.v 1)))
 (.need (.o .le (.i 0) (.v 6)) (.need (.o .lt (.v 6) (.u .len (.v 0))) (.next 2 [(.o (.add .i64) (.v 5) (.o .idx (.v 0) (.v 6))), (.o (.add .i64) (.v 6) (.i 1))])))
 (.call 28 [(.v 5), (.v 1)] 3
 (.need (.o .le (.u .len (.o .snoc (.v 3) (.o .cons (.v 7) (.o .cons (.v 8) .nil)))) (.i 8796093022208)) (.next 1 [(.o .snoc (.v 3) (.o .cons (.v 7) (.o .cons (.v 8) .nil))), (.o (.add .i64) (.v 4) (.v 1))])))))
 (.leaf [(.v 3), (.i 0)]))))))))
noncomputable def k_simulatorref48_Means : Known Try.prog := known mixedOk [k_simulatorref02_Of] (by decide) [⟨1200016, [(9, 0), (10, 0)], [50, 51, 52, 53, 54, 57, 58, 59, 60, 61, 62, 55, 56], [], []⟩, ⟨1200012, [(7, 31), (8, 0)], [40, 41, 42, 43, 44, 45, 9, 49, 10, 50, 51, 52, 53, 54, 57, 58, 59, 60, 61, 62, 55, 56, 64, 65, 66, 63, 67, 68, 11, 12, 69, 70, 71, 72, 46, 47, 48], [], []⟩, ⟨1200006, [(6, 0)], [22, 23, 24, 25, 28, 29, 30, 31, 32, 33, 34, 35, 36, 37, 38, 39, 4, 5, 26, 27], [], []⟩] plTypes plOk inFuncs insOk 6 ⟨12, [(.a (.row 3 [(.int .i64)] false)), (.a (.ck (.int .i64)))], (.t [(.a (.row 31 [(.int .i64), (.int .i64)] true)), (.a (.ck (.int .i64)))])⟩ (fun args w => Try.call12 args w) tk_simulatorref48_Means (by kernel_rfl)
theorem k_simulatorref48_Means_f : k_simulatorref48_Means.con.f = 12 := rfl
theorem k_simulatorref48_Means_F (l : List Sc) : k_simulatorref48_Means.F l = if l.length = 2 then tk_simulatorref48_Means.den (gam (P := Try.prog) [k_simulatorref02_Of]) l [] else none := rfl
def tk_simulatorref02_Cmp : T (List Ex) :=
 (.call 39 [(.v 0), (.v 1)] 2
 (.call 39 [(.v 2), (.v 3)] 2
 (.call 41 [(.v 4), (.v 7)] 3
 (.call 41 [(.o (.sub .i64) (.i 0) (.v 6)), (.v 5)] 3
 (.call 40 [(.v 8), (.v 9), (.v 10), (.v 11), (.v 12), (.v 13)] 3
 (.ite (.o .and (.o .eq (.v 15) (.i 0)) (.o .and (.o .eq (.v 16) (.i 0)) (.b true)))
 (.leaf [(.i 0)])
 (.ite (.v 14)
 (.leaf [(.i (-1))])
 (.leaf [(.i 1)]))))))))
noncomputable def k_simulatorref02_Cmp : Known Try.prog := known mixedOk [k_simulatorref02_usual, k_simulatorref02_Product, k_simulatorref02_Both] (by decide) [] plTypes plOk inFuncs insOk 6 ⟨22, [(.g [(.ck (.int .i64)), (.ck (.int .i64))]), (.g [(.ck (.int .i64)), (.ck (.int .i64))])], (.c (.a (.ck (.int .i64))))⟩ (fun args w => Try.call22 args w) tk_simulatorref02_Cmp (by kernel_rfl)
theorem k_simulatorref02_Cmp_f : k_simulatorref02_Cmp.con.f = 22 := rfl
theorem k_simulatorref02_Cmp_F (l : List Sc) : k_simulatorref02_Cmp.F l = if l.length = 4 then tk_simulatorref02_Cmp.den (gam (P := Try.prog) [k_simulatorref02_usual, k_simulatorref02_Product, k_simulatorref02_Both]) l [] else none := rfl
def tk_simulatorref02_Sub : T (List Ex) :=
 (.call 42 [(.v 2), (.v 3)] 1
 (.ite (.u .not (.v 4))
 (.leaf [(.i 0), (.i 0), (.b false)])
 (.call 44 [(.v 2), (.v 3)] 2
 (.call 43 [(.v 0), (.v 1), (.v 5), (.v 6)] 3
 (.leaf [(.v 7), (.v 8), (.v 9)])))))
noncomputable def k_simulatorref02_Sub : Known Try.prog := known mixedOk [k_simulatorref02_Valid, k_simulatorref02_Opposite, k_simulatorref02_Add] (by decide) [] plTypes plOk inFuncs insOk 6 ⟨23, [(.g [(.ck (.int .i64)), (.ck (.int .i64))]), (.g [(.ck (.int .i64)), (.ck (.int .i64))])], (.t [(.g [(.ck (.int .i64)), (.ck (.int .i64))]), (.a (.ck .bool))])⟩ (fun args w => Try.call23 args w) tk_simulatorref02_Sub (by kernel_rfl)
theorem k_simulatorref02_Sub_f : k_simulatorref02_Sub.con.f = 23 := rfl
theorem k_simulatorref02_Sub_F (l : List Sc) : k_simulatorref02_Sub.F l = if l.length = 4 then tk_simulatorref02_Sub.den (gam (P := Try.prog) [k_simulatorref02_Valid, k_simulatorref02_Opposite, k_simulatorref02_Add]) l [] else none := rfl
def tk_simulatorref48_mean : T (List Ex) :=
 (.call 52 [(.v 0)] 3
 (.ite (.u .not (.v 3))
 (.leaf [(.i 0), (.i 0), (.b false)])
 (.ite (.o .eq (.u .len (.v 0)) (.i 0))
 (.leaf [(.i 0), (.i 0), (.b false)])
 (.call 37 [(.v 1), (.v 2), (.u .len (.v 0)), (.i 1)] 3
 (.leaf [(.v 4), (.v 5), (.v 6)])))))
noncomputable def k_simulatorref48_mean : Known Try.prog := known mixedOk [k_simulatorref02_Sum, k_simulatorref02_Div] (by decide) [] plTypes plOk inFuncs insOk 6 ⟨30, [(.a (.row 31 [(.int .i64), (.int .i64)] true))], (.t [(.g [(.ck (.int .i64)), (.ck (.int .i64))]), (.a (.ck .bool))])⟩ (fun args w => Try.call30 args w) tk_simulatorref48_mean (by kernel_rfl)
theorem k_simulatorref48_mean_f : k_simulatorref48_mean.con.f = 30 := rfl
theorem k_simulatorref48_mean_F (l : List Sc) : k_simulatorref48_mean.F l = if l.length = 1 then tk_simulatorref48_mean.den (gam (P := Try.prog) [k_simulatorref02_Sum, k_simulatorref02_Div]) l [] else none := rfl
def tk_simulatorref48_deviations : T (List Ex) :=
 (.call 30 [(.v 0)] 3
 (.ite (.u .not (.v 3))
 (.leaf [.nil, (.b false)])
 (.loop [.nil, (.i 0)]
 (.ite (.o .lt (.v 5) (.u .len (.v 0)))
 (.need (.o .le (.i 0) (.v 5)) (.need (.o .lt (.v 5) (.u .len (.v 0))) (.call 23 [(.u (.cell 0) (.o .idx (.v 0) (.v 5))), (.u (.cell 1) (.o .idx (.v 0) (.v 5))), (.v 1), (.v 2)] 3
 (.ite (.u .not (.v 8))
 (.leaf [.nil, (.b false)])
 (.need (.o .le (.u .len (.o .snoc (.v 4) (.o .cons (.v 6) (.o .cons (.v 7) .nil)))) (.i 8796093022208)) (.next 0 [(.o .snoc (.v 4) (.o .cons (.v 6) (.o .cons (.v 7) .nil))), (.o (.add .i64) (.v 5) (.i 1))]))))))
 (.leaf [(.v 4), (.b true)])))))
noncomputable def k_simulatorref48_deviations : Known Try.prog := known mixedOk [k_simulatorref48_mean, k_simulatorref02_Sub] (by decide) [⟨3500006, [(6, 31), (7, 0)], [17, 18, 19, 20, 24, 25, 26, 27, 28, 29, 23, 30, 31, 8, 9, 32, 33, 2, 3, 34, 35, 36, 37, 21, 22], [], []⟩] plTypes plOk inFuncs insOk 6 ⟨35, [(.a (.row 31 [(.int .i64), (.int .i64)] true))], (.t [(.a (.row 31 [(.int .i64), (.int .i64)] true)), (.a (.ck .bool))])⟩ (fun args w => Try.call35 args w) tk_simulatorref48_deviations (by kernel_rfl)
theorem k_simulatorref48_deviations_f : k_simulatorref48_deviations.con.f = 35 := rfl
theorem k_simulatorref48_deviations_F (l : List Sc) : k_simulatorref48_deviations.F l = if l.length = 1 then tk_simulatorref48_deviations.den (gam (P := Try.prog) [k_simulatorref48_mean, k_simulatorref02_Sub]) l [] else none := rfl
def tk_simulatorref48_products : T (List Ex) :=
 (.loop [.nil, (.i 0)]
 (.ite (.o .lt (.v 3) (.u .len (.v 0)))
 (.need (.o .le (.i 0) (.v 3)) (.need (.o .lt (.v 3) (.u .len (.v 0))) (.need (.o .le (.i 0) (.v 3)) (.need (.o .lt (.v 3) (.u .len (.v 1))) (.call 57 [(.u (.cell 0) (.o .idx (.v 0) (.v 3))), (.u (.cell 1) (.o .idx (.v 0) (.v 3))), (.u (.cell 0) (.o .idx (.v 1) (.v 3))), (.u (.cell 1) (.o .idx (.v 1) (.v 3)))] 3
 (.ite (.u .not (.v 6))
 (.leaf [(.i 0), (.i 0), (.b false)])
 (.need (.o .le (.u .len (.o .snoc (.v 2) (.o .cons (.v 4) (.o .cons (.v 5) .nil)))) (.i 8796093022208)) (.next 0 [(.o .snoc (.v 2) (.o .cons (.v 4) (.o .cons (.v 5) .nil))), (.o (.add .i64) (.v 3) (.i 1))]))))))))
 (.call 52 [(.v 2)] 3
 (.leaf [(.v 4), (.v 5), (.v 6)]))))
noncomputable def k_simulatorref48_products : Known Try.prog := known mixedOk [k_simulatorref02_Mul, k_simulatorref02_Sum] (by decide) [⟨3600003, [(6, 31), (7, 0)], [10, 11, 12, 13, 17, 18, 19, 20, 21, 22, 23, 24, 25, 16, 26, 27, 8, 9, 28, 29, 30, 5, 31, 32, 33, 34, 14, 15], [], []⟩] plTypes plOk inFuncs insOk 6 ⟨36, [(.a (.row 31 [(.int .i64), (.int .i64)] true)), (.a (.row 31 [(.int .i64), (.int .i64)] true))], (.t [(.g [(.ck (.int .i64)), (.ck (.int .i64))]), (.a (.ck .bool))])⟩ (fun args w => Try.call36 args w) tk_simulatorref48_products (by kernel_rfl)
theorem k_simulatorref48_products_f : k_simulatorref48_products.con.f = 36 := rfl
theorem k_simulatorref48_products_F (l : List Sc) : k_simulatorref48_products.F l = if l.length = 2 then tk_simulatorref48_products.den (gam (P := Try.prog) [k_simulatorref02_Mul, k_simulatorref02_Sum]) l [] else none := rfl
def tk_frac_Sub : T (List Ex) :=
 (.call 67 [(.v 0), (.v 1), (.v 2), (.v 3), (.b true)] 3
 (.leaf [(.v 4), (.v 5), (.v 6)]))
noncomputable def k_frac_Sub : Known Try.prog := known mixedOk [k_frac_sum] (by decide) [] plTypes plOk inFuncs insOk 6 ⟨53, [(.g [(.ck (.int .i64)), (.ck (.int .i64))]), (.g [(.ck (.int .i64)), (.ck (.int .i64))])], (.t [(.g [(.ck (.int .i64)), (.ck (.int .i64))]), (.a (.ck .bool))])⟩ (fun args w => Try.call53 args w) tk_frac_Sub (by kernel_rfl)
theorem k_frac_Sub_f : k_frac_Sub.con.f = 53 := rfl
theorem k_frac_Sub_F (l : List Sc) : k_frac_Sub.F l = if l.length = 4 then tk_frac_Sub.den (gam (P := Try.prog) [k_frac_sum]) l [] else none := rfl
def tk_frac_Add : T (List Ex) :=
 (.call 67 [(.v 0), (.v 1), (.v 2), (.v 3), (.b false)] 3
 (.leaf [(.v 4), (.v 5), (.v 6)]))
noncomputable def k_frac_Add : Known Try.prog := known mixedOk [k_frac_sum] (by decide) [] plTypes plOk inFuncs insOk 6 ⟨66, [(.g [(.ck (.int .i64)), (.ck (.int .i64))]), (.g [(.ck (.int .i64)), (.ck (.int .i64))])], (.t [(.g [(.ck (.int .i64)), (.ck (.int .i64))]), (.a (.ck .bool))])⟩ (fun args w => Try.call66 args w) tk_frac_Add (by kernel_rfl)
theorem k_frac_Add_f : k_frac_Add.con.f = 66 := rfl
theorem k_frac_Add_F (l : List Sc) : k_frac_Add.F l = if l.length = 4 then tk_frac_Add.den (gam (P := Try.prog) [k_frac_sum]) l [] else none := rfl
def tk_simulatorref48_Mean : T (List Ex) :=
 (.ite (.o .lt (.i 50) (.u .len (.v 0)))
 (.leaf [(.i 0), (.i 0), (.b false)])
 (.call 30 [(.v 0)] 3
 (.leaf [(.v 1), (.v 2), (.v 3)])))
noncomputable def k_simulatorref48_Mean : Known Try.prog := known mixedOk [k_simulatorref48_mean] (by decide) [] plTypes plOk inFuncs insOk 6 ⟨15, [(.a (.row 31 [(.int .i64), (.int .i64)] true))], (.t [(.g [(.ck (.int .i64)), (.ck (.int .i64))]), (.a (.ck .bool))])⟩ (fun args w => Try.call15 args w) tk_simulatorref48_Mean (by kernel_rfl)
theorem k_simulatorref48_Mean_f : k_simulatorref48_Mean.con.f = 15 := rfl
theorem k_simulatorref48_Mean_F (l : List Sc) : k_simulatorref48_Mean.F l = if l.length = 1 then tk_simulatorref48_Mean.den (gam (P := Try.prog) [k_simulatorref48_mean]) l [] else none := rfl
def tk_simulatorref48_Variance : T (List Ex) :=
 (.ite (.o .lt (.u .len (.v 0)) (.i 2))
 (.leaf [(.i 0), (.i 0), (.b false)])
 (.ite (.o .lt (.i 50) (.u .len (.v 0)))
 (.leaf [(.i 0), (.i 0), (.b false)])
 (.call 35 [(.v 0)] 2
 (.call 36 [(.v 1), (.v 1)] 3
 (.ite (.u .not (.v 2))
 (.leaf [(.i 0), (.i 0), (.b false)])
 (.ite (.u .not (.v 5))
 (.leaf [(.i 0), (.i 0), (.b false)])
 (.call 37 [(.v 3), (.v 4), (.o (.sub .i64) (.u .len (.v 0)) (.i 1)), (.i 1)] 3
 (.leaf [(.v 6), (.v 7), (.v 8)]))))))))
noncomputable def k_simulatorref48_Variance : Known Try.prog := known mixedOk [k_simulatorref48_deviations, k_simulatorref48_products, k_simulatorref02_Div] (by decide) [] plTypes plOk inFuncs insOk 6 ⟨17, [(.a (.row 31 [(.int .i64), (.int .i64)] true))], (.t [(.g [(.ck (.int .i64)), (.ck (.int .i64))]), (.a (.ck .bool))])⟩ (fun args w => Try.call17 args w) tk_simulatorref48_Variance (by kernel_rfl)
theorem k_simulatorref48_Variance_f : k_simulatorref48_Variance.con.f = 17 := rfl
theorem k_simulatorref48_Variance_F (l : List Sc) : k_simulatorref48_Variance.F l = if l.length = 1 then tk_simulatorref48_Variance.den (gam (P := Try.prog) [k_simulatorref48_deviations, k_simulatorref48_products, k_simulatorref02_Div]) l [] else none := rfl
def tk_simulatorref48_Lag : T (List Ex) :=
 (.ite (.o .lt (.u .len (.v 0)) (.i 2))
 (.leaf [(.i 0), (.i 0), (.b false)])
 (.ite (.o .lt (.i 1000) (.u .len (.v 0)))
 (.leaf [(.i 0), (.i 0), (.b false)])
 (.call 35 [(.v 0)] 2
 (.ite (.u .not (.v 2))
 (.leaf [(.i 0), (.i 0), (.b false)])
 (.need (.o .le (.i 0) (.o (.sub .i64) (.u .len (.v 1)) (.i 1))) (.need (.o .le (.o (.sub .i64) (.u .len (.v 1)) (.i 1)) (.u .len (.v 1))) (.need (.o .le (.i 1) (.u .len (.v 1))) (.need (.o .le (.u .len (.v 1)) (.u .len (.v 1))) (.call 36 [(.t .lsub (.v 1) (.i 0) (.o (.add .i64) (.i 0) (.o (.sub .i64) (.o (.sub .i64) (.u .len (.v 1)) (.i 1)) (.i 0)))), (.t .lsub (.v 1) (.i 1) (.o (.add .i64) (.i 1) (.o (.sub .i64) (.u .len (.v 1)) (.i 1))))] 3
 (.call 36 [(.v 1), (.v 1)] 3
 (.ite (.u .not (.v 5))
 (.leaf [(.i 0), (.i 0), (.b false)])
 (.ite (.u .not (.v 8))
 (.leaf [(.i 0), (.i 0), (.b false)])
 (.ite (.o .eq (.v 6) (.i 0))
 (.leaf [(.v 6), (.v 7), (.b true)])
 (.call 37 [(.v 3), (.v 4), (.v 6), (.v 7)] 3
 (.leaf [(.v 9), (.v 10), (.v 11)])))))))))))))))
noncomputable def k_simulatorref48_Lag : Known Try.prog := known mixedOk [k_simulatorref48_deviations, k_simulatorref48_products, k_simulatorref02_Div] (by decide) [] plTypes plOk inFuncs insOk 6 ⟨19, [(.a (.row 31 [(.int .i64), (.int .i64)] true))], (.t [(.g [(.ck (.int .i64)), (.ck (.int .i64))]), (.a (.ck .bool))])⟩ (fun args w => Try.call19 args w) tk_simulatorref48_Lag (by kernel_rfl)
theorem k_simulatorref48_Lag_f : k_simulatorref48_Lag.con.f = 19 := rfl
theorem k_simulatorref48_Lag_F (l : List Sc) : k_simulatorref48_Lag.F l = if l.length = 1 then tk_simulatorref48_Lag.den (gam (P := Try.prog) [k_simulatorref48_deviations, k_simulatorref48_products, k_simulatorref02_Div]) l [] else none := rfl
def tk_simulatorref48_Size : T (List Ex) :=
 (.loop [(.i 1)]
 (.ite (.o .le (.v 1) (.i 100))
 (.call 12 [(.v 0), (.v 1)] 2
 (.ite (.o .ne (.v 3) (.i 0))
 (.leaf [(.i 0), (.b false)])
 (.ite (.o .lt (.u .len (.v 2)) (.i 5))
 (.leaf [(.i 0), (.b false)])
 (.call 19 [(.v 2)] 3
 (.ite (.v 6)
 (.call 22 [(.v 4), (.v 5), (.i 1), (.i 5)] 1
 (.ite (.o .le (.v 7) (.i 0))
 (.leaf [(.v 1), (.b true)])
 (.next 0 [(.o (.add .i64) (.v 1) (.i 1))])))
 (.next 0 [(.o (.add .i64) (.v 1) (.i 1))]))))))
 (.leaf [(.i 0), (.b false)])))
noncomputable def k_simulatorref48_Size : Known Try.prog := known mixedOk [k_simulatorref48_Means, k_simulatorref48_Lag, k_simulatorref02_Cmp] (by decide) [⟨2100002, [(4, 0)], [9, 10, 14, 15, 16, 13, 17, 18, 5, 6, 19, 20, 21, 22, 23, 24, 25, 2, 3, 27, 28, 26, 29, 30, 7, 8, 31, 32, 33, 34, 35, 36, 37, 38, 11, 12], [], []⟩] plTypes plOk inFuncs insOk 6 ⟨21, [(.a (.row 3 [(.int .i64)] false))], (.t [(.a (.ck (.int .i64))), (.a (.ck .bool))])⟩ (fun args w => Try.call21 args w) tk_simulatorref48_Size (by kernel_rfl)
theorem k_simulatorref48_Size_f : k_simulatorref48_Size.con.f = 21 := rfl
theorem k_simulatorref48_Size_F (l : List Sc) : k_simulatorref48_Size.F l = if l.length = 1 then tk_simulatorref48_Size.den (gam (P := Try.prog) [k_simulatorref48_Means, k_simulatorref48_Lag, k_simulatorref02_Cmp]) l [] else none := rfl
def tk_frac_Sum : T (List Ex) :=
 (.loop [(.i 0), (.i 0), (.i 1)]
 (.ite (.o .lt (.v 1) (.u .len (.v 0)))
 (.need (.o .le (.i 0) (.v 1)) (.need (.o .lt (.v 1) (.u .len (.v 0))) (.call 66 [(.v 2), (.v 3), (.u (.cell 0) (.o .idx (.v 0) (.v 1))), (.u (.cell 1) (.o .idx (.v 0) (.v 1)))] 3
 (.ite (.u .not (.v 6))
 (.leaf [(.i 0), (.i 0), (.b false)])
 (.next 0 [(.o (.add .i64) (.v 1) (.i 1)), (.v 4), (.v 5)])))))
 (.leaf [(.v 2), (.v 3), (.b true)])))
noncomputable def k_frac_Sum : Known Try.prog := known mixedOk [k_frac_Add] (by decide) [⟨5100003, [(12, 0)], [13, 14, 15, 6, 17, 18, 19, 16, 20, 21, 7, 8, 22, 23, 24, 3, 25, 26], [(1, (0, 0)), (1, (1, 0))], []⟩] plTypes plOk inFuncs insOk 6 ⟨51, [(.a (.row 31 [(.int .i64), (.int .i64)] true))], (.t [(.g [(.ck (.int .i64)), (.ck (.int .i64))]), (.a (.ck .bool))])⟩ (fun args w => Try.call51 args w) tk_frac_Sum (by kernel_rfl)
theorem k_frac_Sum_f : k_frac_Sum.con.f = 51 := rfl
theorem k_frac_Sum_F (l : List Sc) : k_frac_Sum.F l = if l.length = 1 then tk_frac_Sum.den (gam (P := Try.prog) [k_frac_Add]) l [] else none := rfl
def tk_batch_mean : T (List Ex) :=
 (.call 51 [(.v 0)] 3
 (.ite (.u .not (.v 3))
 (.leaf [(.i 0), (.i 0), (.b false)])
 (.ite (.o .eq (.u .len (.v 0)) (.i 0))
 (.leaf [(.i 0), (.i 0), (.b false)])
 (.call 34 [(.u .len (.v 0))] 2
 (.call 33 [(.v 1), (.v 2), (.v 4), (.v 5)] 3
 (.leaf [(.v 6), (.v 7), (.v 8)]))))))
noncomputable def k_batch_mean : Known Try.prog := known mixedOk [k_frac_Sum, k_batch_whole, k_frac_Div] (by decide) [] plTypes plOk inFuncs insOk 6 ⟨29, [(.a (.row 31 [(.int .i64), (.int .i64)] true))], (.t [(.g [(.ck (.int .i64)), (.ck (.int .i64))]), (.a (.ck .bool))])⟩ (fun args w => Try.call29 args w) tk_batch_mean (by kernel_rfl)
theorem k_batch_mean_f : k_batch_mean.con.f = 29 := rfl
theorem k_batch_mean_F (l : List Sc) : k_batch_mean.F l = if l.length = 1 then tk_batch_mean.den (gam (P := Try.prog) [k_frac_Sum, k_batch_whole, k_frac_Div]) l [] else none := rfl
def tk_batch_deviations : T (List Ex) :=
 (.call 29 [(.v 0)] 3
 (.ite (.u .not (.v 3))
 (.leaf [.nil, (.b false)])
 (.loop [.nil, (.i 0)]
 (.ite (.o .lt (.v 5) (.u .len (.v 0)))
 (.need (.o .le (.i 0) (.v 5)) (.need (.o .lt (.v 5) (.u .len (.v 0))) (.call 53 [(.u (.cell 0) (.o .idx (.v 0) (.v 5))), (.u (.cell 1) (.o .idx (.v 0) (.v 5))), (.v 1), (.v 2)] 3
 (.ite (.u .not (.v 8))
 (.leaf [.nil, (.b false)])
 (.need (.o .le (.u .len (.o .snoc (.v 4) (.o .cons (.v 6) (.o .cons (.v 7) .nil)))) (.i 8796093022208)) (.next 0 [(.o .snoc (.v 4) (.o .cons (.v 6) (.o .cons (.v 7) .nil))), (.o (.add .i64) (.v 5) (.i 1))]))))))
 (.leaf [(.v 4), (.b true)])))))
noncomputable def k_batch_deviations : Known Try.prog := known mixedOk [k_batch_mean, k_frac_Sub] (by decide) [⟨3100006, [(6, 31), (20, 0)], [21, 22, 23, 8, 25, 26, 27, 24, 28, 29, 9, 10, 30, 31, 2, 3, 32, 33, 34, 35, 36], [], []⟩] plTypes plOk inFuncs insOk 6 ⟨31, [(.a (.row 31 [(.int .i64), (.int .i64)] true))], (.t [(.a (.row 31 [(.int .i64), (.int .i64)] true)), (.a (.ck .bool))])⟩ (fun args w => Try.call31 args w) tk_batch_deviations (by kernel_rfl)
theorem k_batch_deviations_f : k_batch_deviations.con.f = 31 := rfl
theorem k_batch_deviations_F (l : List Sc) : k_batch_deviations.F l = if l.length = 1 then tk_batch_deviations.den (gam (P := Try.prog) [k_batch_mean, k_frac_Sub]) l [] else none := rfl
def tk_batch_products : T (List Ex) :=
 (.loop [.nil, (.i 0)]
 (.ite (.o .lt (.v 3) (.u .len (.v 0)))
 (.need (.o .le (.i 0) (.v 3)) (.need (.o .lt (.v 3) (.u .len (.v 0))) (.need (.o .le (.i 0) (.v 3)) (.need (.o .lt (.v 3) (.u .len (.v 1))) (.call 54 [(.u (.cell 0) (.o .idx (.v 0) (.v 3))), (.u (.cell 1) (.o .idx (.v 0) (.v 3))), (.u (.cell 0) (.o .idx (.v 1) (.v 3))), (.u (.cell 1) (.o .idx (.v 1) (.v 3)))] 3
 (.ite (.u .not (.v 6))
 (.leaf [(.i 0), (.i 0), (.b false)])
 (.need (.o .le (.u .len (.o .snoc (.v 2) (.o .cons (.v 4) (.o .cons (.v 5) .nil)))) (.i 8796093022208)) (.next 0 [(.o .snoc (.v 2) (.o .cons (.v 4) (.o .cons (.v 5) .nil))), (.o (.add .i64) (.v 3) (.i 1))]))))))))
 (.call 51 [(.v 2)] 3
 (.leaf [(.v 4), (.v 5), (.v 6)]))))
noncomputable def k_batch_products : Known Try.prog := known mixedOk [k_frac_Mul, k_frac_Sum] (by decide) [⟨3200003, [(6, 31), (12, 0)], [13, 14, 7, 16, 17, 18, 19, 20, 21, 22, 23, 24, 15, 25, 26, 8, 9, 27, 28, 29, 5, 30, 31, 32, 33, 34], [], []⟩] plTypes plOk inFuncs insOk 6 ⟨32, [(.a (.row 31 [(.int .i64), (.int .i64)] true)), (.a (.row 31 [(.int .i64), (.int .i64)] true))], (.t [(.g [(.ck (.int .i64)), (.ck (.int .i64))]), (.a (.ck .bool))])⟩ (fun args w => Try.call32 args w) tk_batch_products (by kernel_rfl)
theorem k_batch_products_f : k_batch_products.con.f = 32 := rfl
theorem k_batch_products_F (l : List Sc) : k_batch_products.F l = if l.length = 2 then tk_batch_products.den (gam (P := Try.prog) [k_frac_Mul, k_frac_Sum]) l [] else none := rfl
def tk_batch_Mean : T (List Ex) :=
 (.ite (.o .lt (.i 50) (.u .len (.v 0)))
 (.leaf [(.i 0), (.i 0), (.b false)])
 (.call 29 [(.v 0)] 3
 (.leaf [(.v 1), (.v 2), (.v 3)])))
noncomputable def k_batch_Mean : Known Try.prog := known mixedOk [k_batch_mean] (by decide) [] plTypes plOk inFuncs insOk 6 ⟨14, [(.a (.row 31 [(.int .i64), (.int .i64)] true))], (.t [(.g [(.ck (.int .i64)), (.ck (.int .i64))]), (.a (.ck .bool))])⟩ (fun args w => Try.call14 args w) tk_batch_Mean (by kernel_rfl)
theorem k_batch_Mean_f : k_batch_Mean.con.f = 14 := rfl
theorem k_batch_Mean_F (l : List Sc) : k_batch_Mean.F l = if l.length = 1 then tk_batch_Mean.den (gam (P := Try.prog) [k_batch_mean]) l [] else none := rfl
def tk_batch_Variance : T (List Ex) :=
 (.ite (.o .lt (.u .len (.v 0)) (.i 2))
 (.leaf [(.i 0), (.i 0), (.b false)])
 (.ite (.o .lt (.i 50) (.u .len (.v 0)))
 (.leaf [(.i 0), (.i 0), (.b false)])
 (.call 31 [(.v 0)] 2
 (.ite (.u .not (.v 2))
 (.leaf [(.i 0), (.i 0), (.b false)])
 (.call 32 [(.v 1), (.v 1)] 3
 (.ite (.u .not (.v 5))
 (.leaf [(.i 0), (.i 0), (.b false)])
 (.call 34 [(.o (.sub .i64) (.u .len (.v 0)) (.i 1))] 2
 (.call 33 [(.v 3), (.v 4), (.v 6), (.v 7)] 3
 (.leaf [(.v 8), (.v 9), (.v 10)])))))))))
noncomputable def k_batch_Variance : Known Try.prog := known mixedOk [k_batch_deviations, k_batch_products, k_batch_whole, k_frac_Div] (by decide) [] plTypes plOk inFuncs insOk 6 ⟨16, [(.a (.row 31 [(.int .i64), (.int .i64)] true))], (.t [(.g [(.ck (.int .i64)), (.ck (.int .i64))]), (.a (.ck .bool))])⟩ (fun args w => Try.call16 args w) tk_batch_Variance (by kernel_rfl)
theorem k_batch_Variance_f : k_batch_Variance.con.f = 16 := rfl
theorem k_batch_Variance_F (l : List Sc) : k_batch_Variance.F l = if l.length = 1 then tk_batch_Variance.den (gam (P := Try.prog) [k_batch_deviations, k_batch_products, k_batch_whole, k_frac_Div]) l [] else none := rfl
def tk_batch_Lag : T (List Ex) :=
 (.ite (.o .lt (.u .len (.v 0)) (.i 2))
 (.leaf [(.i 0), (.i 0), (.b false)])
 (.ite (.o .lt (.i 1000) (.u .len (.v 0)))
 (.leaf [(.i 0), (.i 0), (.b false)])
 (.call 31 [(.v 0)] 2
 (.ite (.u .not (.v 2))
 (.leaf [(.i 0), (.i 0), (.b false)])
 (.need (.o .le (.i 0) (.o (.sub .i64) (.u .len (.v 1)) (.i 1))) (.need (.o .le (.o (.sub .i64) (.u .len (.v 1)) (.i 1)) (.u .len (.v 1))) (.need (.o .le (.i 1) (.u .len (.v 1))) (.need (.o .le (.u .len (.v 1)) (.u .len (.v 1))) (.call 32 [(.t .lsub (.v 1) (.i 0) (.o (.add .i64) (.i 0) (.o (.sub .i64) (.o (.sub .i64) (.u .len (.v 1)) (.i 1)) (.i 0)))), (.t .lsub (.v 1) (.i 1) (.o (.add .i64) (.i 1) (.o (.sub .i64) (.u .len (.v 1)) (.i 1))))] 3
 (.call 32 [(.v 1), (.v 1)] 3
 (.ite (.u .not (.v 5))
 (.leaf [(.i 0), (.i 0), (.b false)])
 (.ite (.u .not (.v 8))
 (.leaf [(.i 0), (.i 0), (.b false)])
 (.ite (.o .eq (.v 6) (.i 0))
 (.call 34 [(.i 0)] 2
 (.leaf [(.v 9), (.v 10), (.b true)]))
 (.call 33 [(.v 3), (.v 4), (.v 6), (.v 7)] 3
 (.leaf [(.v 9), (.v 10), (.v 11)])))))))))))))))
noncomputable def k_batch_Lag : Known Try.prog := known mixedOk [k_batch_deviations, k_batch_products, k_batch_whole, k_frac_Div] (by decide) [] plTypes plOk inFuncs insOk 6 ⟨18, [(.a (.row 31 [(.int .i64), (.int .i64)] true))], (.t [(.g [(.ck (.int .i64)), (.ck (.int .i64))]), (.a (.ck .bool))])⟩ (fun args w => Try.call18 args w) tk_batch_Lag (by kernel_rfl)
theorem k_batch_Lag_f : k_batch_Lag.con.f = 18 := rfl
theorem k_batch_Lag_F (l : List Sc) : k_batch_Lag.F l = if l.length = 1 then tk_batch_Lag.den (gam (P := Try.prog) [k_batch_deviations, k_batch_products, k_batch_whole, k_frac_Div]) l [] else none := rfl
def tk_batch_Size : T (List Ex) :=
 (.loop [(.i 1)]
 (.ite (.o .le (.v 1) (.i 100))
 (.call 11 [(.v 0), (.v 1)] 2
 (.ite (.o .ne (.v 3) (.i 0))
 (.leaf [(.i 0), (.b false)])
 (.ite (.o .lt (.u .len (.v 2)) (.i 5))
 (.leaf [(.i 0), (.b false)])
 (.call 18 [(.v 2)] 3
 (.ite (.v 6)
 (.call 38 [(.v 4), (.v 5), (.i 1), (.i 5)] 1
 (.ite (.o .le (.v 7) (.i 0))
 (.leaf [(.v 1), (.b true)])
 (.next 0 [(.o (.add .i64) (.v 1) (.i 1))])))
 (.next 0 [(.o (.add .i64) (.v 1) (.i 1))]))))))
 (.leaf [(.i 0), (.b false)])))
noncomputable def k_batch_Size : Known Try.prog := known mixedOk [k_batch_Means, k_batch_Lag, k_frac_Cmp] (by decide) [⟨2000002, [(4, 0)], [9, 10, 14, 15, 16, 13, 17, 18, 5, 6, 19, 20, 21, 22, 23, 24, 25, 2, 3, 27, 28, 26, 29, 30, 7, 8, 31, 32, 33, 34, 35, 36, 37, 38, 11, 12], [], []⟩] plTypes plOk inFuncs insOk 6 ⟨20, [(.a (.row 3 [(.int .i64)] false))], (.t [(.a (.ck (.int .i64))), (.a (.ck .bool))])⟩ (fun args w => Try.call20 args w) tk_batch_Size (by kernel_rfl)
theorem k_batch_Size_f : k_batch_Size.con.f = 20 := rfl
theorem k_batch_Size_F (l : List Sc) : k_batch_Size.F l = if l.length = 1 then tk_batch_Size.den (gam (P := Try.prog) [k_batch_Means, k_batch_Lag, k_frac_Cmp]) l [] else none := rfl
def tk_simulatorlaw48_awake : T (List Ex) :=
 (.call 11 [(.o .cons (.i 1) (.o .cons (.i 2) (.o .cons (.i 4) (.o .cons (.i 4) (.o .cons (.i 9) .nil))))), (.i 2)] 2
 (.call 11 [(.o .cons (.i 10001) .nil), (.i 1)] 2
 (.call 24 [(.o .cons (.i 1) (.o .cons (.i 2) (.o .cons (.i 4) .nil)))] 1
 (.call 14 [(.v 4)] 3
 (.call 24 [(.o .cons (.i 1) (.o .cons (.i 2) (.o .cons (.i 4) .nil)))] 1
 (.call 16 [(.v 8)] 3
 (.call 24 [(.o .cons (.i 1) (.o .cons (.i 2) (.o .cons (.i 4) .nil)))] 1
 (.call 18 [(.v 12)] 3
 (.call 20 [(.o .cons (.i 1) (.o .cons (.i 1) (.o .cons (.i 1) (.o .cons (.i 1) (.o .cons (.i 1) .nil)))))] 2
 (.call 20 [(.o .cons (.i 1) (.o .cons (.i 1) (.o .cons (.i 1) (.o .cons (.i 1) .nil))))] 2
 (.call 14 [.nil] 3
 (.ite (.o .eq (.v 1) (.i 0))
 (.call 13 [(.v 0), (.o .cons (.o .cons (.i 3) (.o .cons (.i 2) .nil)) (.o .cons (.o .cons (.i 4) (.o .cons (.i 1) .nil)) .nil))] 1
 (.ite (.v 23)
 (.ite (.o .eq (.v 3) (.i 2))
 (.ite (.v 7)
 (.ite (.o .and (.o .eq (.v 5) (.i 7)) (.o .and (.o .eq (.v 6) (.i 3)) (.b true)))
 (.ite (.v 11)
 (.ite (.o .and (.o .eq (.v 9) (.i 7)) (.o .and (.o .eq (.v 10) (.i 3)) (.b true)))
 (.ite (.v 15)
 (.ite (.o .and (.o .eq (.v 13) (.i (-1))) (.o .and (.o .eq (.v 14) (.i 42)) (.b true)))
 (.ite (.o .eq (.v 16) (.i 1))
 (.ite (.v 17)
 (.ite (.u .not (.v 19))
 (.leaf [(.u .not (.v 22))])
 (.leaf [(.b false)]))
 (.leaf [(.b false)]))
 (.leaf [(.b false)]))
 (.leaf [(.b false)]))
 (.leaf [(.b false)]))
 (.leaf [(.b false)]))
 (.leaf [(.b false)]))
 (.leaf [(.b false)]))
 (.leaf [(.b false)]))
 (.leaf [(.b false)]))
 (.leaf [(.b false)])))
 (.leaf [(.b false)])))))))))))))
noncomputable def k_simulatorlaw48_awake : Known Try.prog := known mixedOk [k_batch_Means, k_simulatorlaw48_whole, k_batch_Mean, k_batch_Variance, k_batch_Lag, k_batch_Size, k_simulatorref02_Same] (by decide) [] plTypes plOk inFuncs insOk 6 ⟨10, [], (.c (.a (.ck .bool)))⟩ (fun args w => Try.call10 args w) tk_simulatorlaw48_awake (by kernel_rfl)
theorem k_simulatorlaw48_awake_f : k_simulatorlaw48_awake.con.f = 10 := rfl
theorem k_simulatorlaw48_awake_F (l : List Sc) : k_simulatorlaw48_awake.F l = if l.length = 0 then tk_simulatorlaw48_awake.den (gam (P := Try.prog) [k_batch_Means, k_simulatorlaw48_whole, k_batch_Mean, k_batch_Variance, k_batch_Lag, k_batch_Size, k_simulatorref02_Same]) l [] else none := rfl
def tk_simulatorlaw48_BatchMeans : T (List Ex) :=
 (.ite (.o .lt (.i 1100) (.u .len (.v 0)))
 (.call 10 [] 1
 (.leaf [(.v 2)]))
 (.call 11 [(.v 0), (.v 1)] 2
 (.call 12 [(.v 0), (.v 1)] 2
 (.ite (.o .eq (.v 3) (.v 5))
 (.call 13 [(.v 2), (.v 4)] 1
 (.ite (.v 6)
 (.call 10 [] 1
 (.leaf [(.v 7)]))
 (.leaf [(.b false)])))
 (.leaf [(.b false)])))))
noncomputable def k_simulatorlaw48_BatchMeans : Known Try.prog := known mixedOk [k_simulatorlaw48_awake, k_batch_Means, k_simulatorref48_Means, k_simulatorref02_Same] (by decide) [] plTypes plOk inFuncs insOk 6 ⟨3, [(.a (.row 3 [(.int .i64)] false)), (.a (.ck (.int .i64)))], (.c (.a (.ck .bool)))⟩ (fun args w => Try.call3 args w) tk_simulatorlaw48_BatchMeans (by kernel_rfl)
theorem k_simulatorlaw48_BatchMeans_f : k_simulatorlaw48_BatchMeans.con.f = 3 := rfl
theorem k_simulatorlaw48_BatchMeans_F (l : List Sc) : k_simulatorlaw48_BatchMeans.F l = if l.length = 2 then tk_simulatorlaw48_BatchMeans.den (gam (P := Try.prog) [k_simulatorlaw48_awake, k_batch_Means, k_simulatorref48_Means, k_simulatorref02_Same]) l [] else none := rfl
def tk_simulatorlaw48_BatchMoments : T (List Ex) :=
 (.ite (.o .lt (.i 100) (.u .len (.v 0)))
 (.call 10 [] 1
 (.leaf [(.v 1)]))
 (.call 14 [(.v 0)] 3
 (.call 15 [(.v 0)] 3
 (.ite (.u .not (.o .and (.o .eq (.v 1) (.v 4)) (.o .and (.o .eq (.v 2) (.v 5)) (.b true))))
 (.leaf [(.b false)])
 (.ite (.u .not (.o .beq (.v 3) (.v 6)))
 (.leaf [(.b false)])
 (.call 16 [(.v 0)] 3
 (.call 17 [(.v 0)] 3
 (.ite (.u .not (.o .and (.o .eq (.v 7) (.v 10)) (.o .and (.o .eq (.v 8) (.v 11)) (.b true))))
 (.leaf [(.b false)])
 (.ite (.u .not (.o .beq (.v 9) (.v 12)))
 (.leaf [(.b false)])
 (.call 18 [(.v 0)] 3
 (.call 19 [(.v 0)] 3
 (.ite (.o .and (.o .eq (.v 13) (.v 16)) (.o .and (.o .eq (.v 14) (.v 17)) (.b true)))
 (.ite (.o .beq (.v 15) (.v 18))
 (.call 10 [] 1
 (.leaf [(.v 19)]))
 (.leaf [(.b false)]))
 (.leaf [(.b false)])))))))))))))
noncomputable def k_simulatorlaw48_BatchMoments : Known Try.prog := known mixedOk [k_simulatorlaw48_awake, k_batch_Mean, k_simulatorref48_Mean, k_batch_Variance, k_simulatorref48_Variance, k_batch_Lag, k_simulatorref48_Lag] (by decide) [] plTypes plOk inFuncs insOk 6 ⟨4, [(.a (.row 31 [(.int .i64), (.int .i64)] true))], (.c (.a (.ck .bool)))⟩ (fun args w => Try.call4 args w) tk_simulatorlaw48_BatchMoments (by kernel_rfl)
theorem k_simulatorlaw48_BatchMoments_f : k_simulatorlaw48_BatchMoments.con.f = 4 := rfl
theorem k_simulatorlaw48_BatchMoments_F (l : List Sc) : k_simulatorlaw48_BatchMoments.F l = if l.length = 1 then tk_simulatorlaw48_BatchMoments.den (gam (P := Try.prog) [k_simulatorlaw48_awake, k_batch_Mean, k_simulatorref48_Mean, k_batch_Variance, k_simulatorref48_Variance, k_batch_Lag, k_simulatorref48_Lag]) l [] else none := rfl
def tk_simulatorlaw48_BatchSizes : T (List Ex) :=
 (.ite (.o .lt (.i 200) (.u .len (.v 0)))
 (.call 10 [] 1
 (.leaf [(.v 1)]))
 (.call 20 [(.v 0)] 2
 (.call 21 [(.v 0)] 2
 (.ite (.o .eq (.v 1) (.v 3))
 (.ite (.o .beq (.v 2) (.v 4))
 (.call 10 [] 1
 (.leaf [(.v 5)]))
 (.leaf [(.b false)]))
 (.leaf [(.b false)])))))
noncomputable def k_simulatorlaw48_BatchSizes : Known Try.prog := known mixedOk [k_simulatorlaw48_awake, k_batch_Size, k_simulatorref48_Size] (by decide) [] plTypes plOk inFuncs insOk 6 ⟨5, [(.a (.row 3 [(.int .i64)] false))], (.c (.a (.ck .bool)))⟩ (fun args w => Try.call5 args w) tk_simulatorlaw48_BatchSizes (by kernel_rfl)
theorem k_simulatorlaw48_BatchSizes_f : k_simulatorlaw48_BatchSizes.con.f = 5 := rfl
theorem k_simulatorlaw48_BatchSizes_F (l : List Sc) : k_simulatorlaw48_BatchSizes.F l = if l.length = 1 then tk_simulatorlaw48_BatchSizes.den (gam (P := Try.prog) [k_simulatorlaw48_awake, k_batch_Size, k_simulatorref48_Size]) l [] else none := rfl
def tk_simulatorlaw48_BatchTotals : T (List Ex) :=
 (.ite (.o .lt (.i 1100) (.u .len (.v 0)))
 (.call 10 [] 1
 (.leaf [(.v 2)]))
 (.call 11 [(.v 0), (.v 1)] 2
 (.ite (.o .ne (.v 3) (.i 0))
 (.ite (.o .eq (.u .len (.v 2)) (.i 0))
 (.call 10 [] 1
 (.leaf [(.v 4)]))
 (.leaf [(.b false)]))
 (.ite (.o .lt (.v 1) (.i 1))
 (.leaf [(.b false)])
 (.ite (.o .lt (.i 100) (.v 1))
 (.leaf [(.b false)])
 (.ite (.o .lt (.i 1000) (.u .len (.v 0)))
 (.leaf [(.b false)])
 (.need (.o .ne (.v 1) (.i 0)) (.ite (.o .ne (.u .len (.v 2)) (.o (.quo .i64) (.u .len (.v 0)) (.v 1)))
 (.leaf [(.b false)])
 (.loop [(.i 0)]
 (.ite (.o .lt (.v 4) (.u .len (.v 2)))
 (.loop [(.i 0), (.i 0)]
 (.ite (.o .lt (.v 6) (.v 1))
 (.need (.o .le (.i 0) (.o (.add .i64) (.o (.mul .i64) (.v 1) (.v 4)) (.v 6))) (.need (.o .lt (.o (.add .i64) (.o (.mul .i64) (.v 1) (.v 4)) (.v 6)) (.u .len (.v 0))) (.next 1 [(.o (.add .i64) (.v 5) (.o .idx (.v 0) (.o (.add .i64) (.o (.mul .i64) (.v 1) (.v 4)) (.v 6)))), (.o (.add .i64) (.v 6) (.i 1))])))
 (.need (.o .le (.i 0) (.v 4)) (.need (.o .lt (.v 4) (.u .len (.v 2))) (.ite (.o .lt (.u (.cell 1) (.o .idx (.v 2) (.v 4))) (.i 1))
 (.leaf [(.b false)])
 (.need (.o .le (.i 0) (.v 4)) (.need (.o .lt (.v 4) (.u .len (.v 2))) (.ite (.o .lt (.i 100) (.u (.cell 1) (.o .idx (.v 2) (.v 4))))
 (.leaf [(.b false)])
 (.need (.o .le (.i 0) (.v 4)) (.need (.o .lt (.v 4) (.u .len (.v 2))) (.ite (.o .lt (.i 1000000) (.u (.cell 0) (.o .idx (.v 2) (.v 4))))
 (.leaf [(.b false)])
 (.need (.o .le (.i 0) (.v 4)) (.need (.o .lt (.v 4) (.u .len (.v 2))) (.ite (.o .lt (.u (.cell 0) (.o .idx (.v 2) (.v 4))) (.i (-1000000)))
 (.leaf [(.b false)])
 (.need (.o .le (.i 0) (.v 4)) (.need (.o .lt (.v 4) (.u .len (.v 2))) (.need (.o .le (.i 0) (.v 4)) (.need (.o .lt (.v 4) (.u .len (.v 2))) (.ite (.o .ne (.o (.mul .i64) (.u (.cell 0) (.o .idx (.v 2) (.v 4))) (.v 1)) (.o (.mul .i64) (.v 5) (.u (.cell 1) (.o .idx (.v 2) (.v 4)))))
 (.leaf [(.b false)])
 (.next 0 [(.o (.add .i64) (.v 4) (.i 1))]))))))))))))))))))))
 (.call 10 [] 1
 (.leaf [(.v 5)]))))))))))))
noncomputable def k_simulatorlaw48_BatchTotals : Known Try.prog := known mixedOk [k_simulatorlaw48_awake, k_batch_Means] (by decide) [⟨600013, [(8, 0), (9, 0)], [54, 55, 56, 59, 60, 61, 62, 63, 64, 65, 66, 67, 68, 57, 58], [], []⟩, ⟨600009, [(7, 0)], [48, 49, 50, 51, 8, 9, 54, 55, 56, 59, 60, 61, 62, 63, 64, 65, 66, 67, 68, 57, 58, 69, 70, 71, 72, 73, 74, 75, 76, 77, 78, 79, 80, 81, 82, 83, 84, 85, 86, 87, 88, 89, 90, 91, 92, 93, 94, 95, 96, 97, 98, 99, 100, 101, 102, 103, 104, 105, 106, 107, 108, 109, 110, 111, 112, 113, 114, 115, 4, 52, 53], [], []⟩] plTypes plOk inFuncs insOk 6 ⟨6, [(.a (.row 3 [(.int .i64)] false)), (.a (.ck (.int .i64)))], (.c (.a (.ck .bool)))⟩ (fun args w => Try.call6 args w) tk_simulatorlaw48_BatchTotals (by kernel_rfl)
theorem k_simulatorlaw48_BatchTotals_f : k_simulatorlaw48_BatchTotals.con.f = 6 := rfl
theorem k_simulatorlaw48_BatchTotals_F (l : List Sc) : k_simulatorlaw48_BatchTotals.F l = if l.length = 2 then tk_simulatorlaw48_BatchTotals.den (gam (P := Try.prog) [k_simulatorlaw48_awake, k_batch_Means]) l [] else none := rfl
def tk_simulatorlaw48_BatchBounds : T (List Ex) :=
 (.ite (.o .lt (.i 100) (.u .len (.v 0)))
 (.call 10 [] 1
 (.leaf [(.v 1)]))
 (.call 14 [(.v 0)] 3
 (.call 16 [(.v 0)] 3
 (.call 18 [(.v 0)] 3
 (.loop [(.b true), (.b false), (.b false), (.i 0)]
 (.ite (.o .lt (.v 13) (.u .len (.v 0)))
 (.ite (.v 10)
 (.need (.o .le (.i 0) (.v 13)) (.need (.o .lt (.v 13) (.u .len (.v 0))) (.need (.o .lt (.i 0) (.u .len (.v 0))) (.ite (.v 11)
 (.ite (.v 12)
 (.next 0 [(.o .and (.o .eq (.u (.cell 0) (.o .idx (.v 0) (.v 13))) (.u (.cell 0) (.o .idx (.v 0) (.i 0)))) (.o .and (.o .eq (.u (.cell 1) (.o .idx (.v 0) (.v 13))) (.u (.cell 1) (.o .idx (.v 0) (.i 0)))) (.b true))), (.b true), (.b true), (.o (.add .i64) (.v 13) (.i 1))])
 (.need (.o .le (.i 0) (.v 13)) (.need (.o .lt (.v 13) (.u .len (.v 0))) (.call 22 [(.u (.cell 0) (.o .idx (.v 0) (.v 13))), (.u (.cell 1) (.o .idx (.v 0) (.v 13))), (.v 1), (.v 2)] 1
 (.next 0 [(.o .and (.o .eq (.u (.cell 0) (.o .idx (.v 0) (.v 13))) (.u (.cell 0) (.o .idx (.v 0) (.i 0)))) (.o .and (.o .eq (.u (.cell 1) (.o .idx (.v 0) (.v 13))) (.u (.cell 1) (.o .idx (.v 0) (.i 0)))) (.b true))), (.b true), (.o .le (.v 14) (.i 0)), (.o (.add .i64) (.v 13) (.i 1))])))))
 (.need (.o .le (.i 0) (.v 13)) (.need (.o .lt (.v 13) (.u .len (.v 0))) (.call 22 [(.u (.cell 0) (.o .idx (.v 0) (.v 13))), (.u (.cell 1) (.o .idx (.v 0) (.v 13))), (.v 1), (.v 2)] 1
 (.ite (.v 12)
 (.next 0 [(.o .and (.o .eq (.u (.cell 0) (.o .idx (.v 0) (.v 13))) (.u (.cell 0) (.o .idx (.v 0) (.i 0)))) (.o .and (.o .eq (.u (.cell 1) (.o .idx (.v 0) (.v 13))) (.u (.cell 1) (.o .idx (.v 0) (.i 0)))) (.b true))), (.o .le (.i 0) (.v 14)), (.b true), (.o (.add .i64) (.v 13) (.i 1))])
 (.need (.o .le (.i 0) (.v 13)) (.need (.o .lt (.v 13) (.u .len (.v 0))) (.call 22 [(.u (.cell 0) (.o .idx (.v 0) (.v 13))), (.u (.cell 1) (.o .idx (.v 0) (.v 13))), (.v 1), (.v 2)] 1
 (.next 0 [(.o .and (.o .eq (.u (.cell 0) (.o .idx (.v 0) (.v 13))) (.u (.cell 0) (.o .idx (.v 0) (.i 0)))) (.o .and (.o .eq (.u (.cell 1) (.o .idx (.v 0) (.v 13))) (.u (.cell 1) (.o .idx (.v 0) (.i 0)))) (.b true))), (.o .le (.i 0) (.v 14)), (.o .le (.v 15) (.i 0)), (.o (.add .i64) (.v 13) (.i 1))]))))))))))))
 (.ite (.v 11)
 (.ite (.v 12)
 (.next 0 [(.b false), (.b true), (.b true), (.o (.add .i64) (.v 13) (.i 1))])
 (.need (.o .le (.i 0) (.v 13)) (.need (.o .lt (.v 13) (.u .len (.v 0))) (.call 22 [(.u (.cell 0) (.o .idx (.v 0) (.v 13))), (.u (.cell 1) (.o .idx (.v 0) (.v 13))), (.v 1), (.v 2)] 1
 (.next 0 [(.b false), (.b true), (.o .le (.v 14) (.i 0)), (.o (.add .i64) (.v 13) (.i 1))])))))
 (.need (.o .le (.i 0) (.v 13)) (.need (.o .lt (.v 13) (.u .len (.v 0))) (.call 22 [(.u (.cell 0) (.o .idx (.v 0) (.v 13))), (.u (.cell 1) (.o .idx (.v 0) (.v 13))), (.v 1), (.v 2)] 1
 (.ite (.v 12)
 (.next 0 [(.b false), (.o .le (.i 0) (.v 14)), (.b true), (.o (.add .i64) (.v 13) (.i 1))])
 (.need (.o .le (.i 0) (.v 13)) (.need (.o .lt (.v 13) (.u .len (.v 0))) (.call 22 [(.u (.cell 0) (.o .idx (.v 0) (.v 13))), (.u (.cell 1) (.o .idx (.v 0) (.v 13))), (.v 1), (.v 2)] 1
 (.next 0 [(.b false), (.o .le (.i 0) (.v 14)), (.o .le (.v 15) (.i 0)), (.o (.add .i64) (.v 13) (.i 1))]))))))))))
 (.ite (.v 3)
 (.ite (.u .not (.v 11))
 (.leaf [(.b false)])
 (.ite (.u .not (.v 12))
 (.leaf [(.b false)])
 (.ite (.v 6)
 (.call 22 [(.v 4), (.v 5), (.i 0), (.i 1)] 1
 (.ite (.o .lt (.v 14) (.i 0))
 (.leaf [(.b false)])
 (.ite (.u .not (.o .beq (.o .eq (.v 4) (.i 0)) (.v 10)))
 (.leaf [(.b false)])
 (.ite (.u .not (.v 9))
 (.call 10 [] 1
 (.leaf [(.v 15)]))
 (.call 22 [(.v 7), (.v 8), (.i 1), (.i 1)] 1
 (.ite (.o .le (.v 15) (.i 0))
 (.call 22 [(.v 7), (.v 8), (.i (-1)), (.i 1)] 1
 (.ite (.o .le (.i 0) (.v 16))
 (.call 10 [] 1
 (.leaf [(.v 17)]))
 (.leaf [(.b false)])))
 (.leaf [(.b false)])))))))
 (.ite (.u .not (.v 9))
 (.call 10 [] 1
 (.leaf [(.v 14)]))
 (.call 22 [(.v 7), (.v 8), (.i 1), (.i 1)] 1
 (.ite (.o .le (.v 14) (.i 0))
 (.call 22 [(.v 7), (.v 8), (.i (-1)), (.i 1)] 1
 (.ite (.o .le (.i 0) (.v 15))
 (.call 10 [] 1
 (.leaf [(.v 16)]))
 (.leaf [(.b false)])))
 (.leaf [(.b false)])))))))
 (.ite (.v 6)
 (.call 22 [(.v 4), (.v 5), (.i 0), (.i 1)] 1
 (.ite (.o .lt (.v 14) (.i 0))
 (.leaf [(.b false)])
 (.ite (.u .not (.o .beq (.o .eq (.v 4) (.i 0)) (.v 10)))
 (.leaf [(.b false)])
 (.ite (.u .not (.v 9))
 (.call 10 [] 1
 (.leaf [(.v 15)]))
 (.call 22 [(.v 7), (.v 8), (.i 1), (.i 1)] 1
 (.ite (.o .le (.v 15) (.i 0))
 (.call 22 [(.v 7), (.v 8), (.i (-1)), (.i 1)] 1
 (.ite (.o .le (.i 0) (.v 16))
 (.call 10 [] 1
 (.leaf [(.v 17)]))
 (.leaf [(.b false)])))
 (.leaf [(.b false)])))))))
 (.ite (.u .not (.v 9))
 (.call 10 [] 1
 (.leaf [(.v 14)]))
 (.call 22 [(.v 7), (.v 8), (.i 1), (.i 1)] 1
 (.ite (.o .le (.v 14) (.i 0))
 (.call 22 [(.v 7), (.v 8), (.i (-1)), (.i 1)] 1
 (.ite (.o .le (.i 0) (.v 15))
 (.call 10 [] 1
 (.leaf [(.v 16)]))
 (.leaf [(.b false)])))
 (.leaf [(.b false)]))))))))))))
noncomputable def k_simulatorlaw48_BatchBounds : Known Try.prog := known mixedOk [k_simulatorlaw48_awake, k_batch_Mean, k_batch_Variance, k_batch_Lag, k_simulatorref02_Cmp] (by decide) [⟨700008, [(9, 0), (10, 0), (11, 0), (12, 0)], [32, 33, 34, 35, 38, 39, 40, 41, 42, 43, 44, 45, 46, 47, 48, 49, 50, 51, 52, 53, 54, 55, 56, 57, 58, 59, 60, 61, 62, 63, 64, 65, 66, 67, 68, 36, 37], [], []⟩] plTypes plOk inFuncs insOk 6 ⟨7, [(.a (.row 31 [(.int .i64), (.int .i64)] true))], (.c (.a (.ck .bool)))⟩ (fun args w => Try.call7 args w) tk_simulatorlaw48_BatchBounds (by kernel_rfl)
theorem k_simulatorlaw48_BatchBounds_f : k_simulatorlaw48_BatchBounds.con.f = 7 := rfl
theorem k_simulatorlaw48_BatchBounds_F (l : List Sc) : k_simulatorlaw48_BatchBounds.F l = if l.length = 1 then tk_simulatorlaw48_BatchBounds.den (gam (P := Try.prog) [k_simulatorlaw48_awake, k_batch_Mean, k_batch_Variance, k_batch_Lag, k_simulatorref02_Cmp]) l [] else none := rfl
def tk_simulatorlaw48_BatchShifts : T (List Ex) :=
 (.ite (.o .lt (.u .len (.v 0)) (.i 2))
 (.call 10 [] 1
 (.leaf [(.v 2)]))
 (.ite (.o .lt (.i 40) (.u .len (.v 0)))
 (.call 10 [] 1
 (.leaf [(.v 2)]))
 (.ite (.o .lt (.v 1) (.i (-5000)))
 (.call 10 [] 1
 (.leaf [(.v 2)]))
 (.ite (.o .lt (.i 5000) (.v 1))
 (.call 10 [] 1
 (.leaf [(.v 2)]))
 (.loop [.nil, .nil, (.i 0)]
 (.ite (.o .lt (.v 4) (.u .len (.v 0)))
 (.need (.o .le (.i 0) (.v 4)) (.need (.o .lt (.v 4) (.u .len (.v 0))) (.need (.o .le (.u .len (.o .snoc (.v 2) (.o .cons (.u (.conv .i64) (.o .idx (.v 0) (.v 4))) (.o .cons (.i 1) .nil)))) (.i 8796093022208)) (.need (.o .le (.i 0) (.v 4)) (.need (.o .lt (.v 4) (.u .len (.v 0))) (.need (.o .le (.u .len (.o .snoc (.v 3) (.o .cons (.o (.add .i64) (.u (.conv .i64) (.o .idx (.v 0) (.v 4))) (.v 1)) (.o .cons (.i 1) .nil)))) (.i 8796093022208)) (.next 0 [(.o .snoc (.v 2) (.o .cons (.u (.conv .i64) (.o .idx (.v 0) (.v 4))) (.o .cons (.i 1) .nil))), (.o .snoc (.v 3) (.o .cons (.o (.add .i64) (.u (.conv .i64) (.o .idx (.v 0) (.v 4))) (.v 1)) (.o .cons (.i 1) .nil))), (.o (.add .i64) (.v 4) (.i 1))])))))))
 (.call 14 [(.v 2)] 3
 (.call 14 [(.v 3)] 3
 (.call 23 [(.v 8), (.v 9), (.v 5), (.v 6)] 3
 (.ite (.u .not (.v 7))
 (.leaf [(.b false)])
 (.ite (.u .not (.v 10))
 (.leaf [(.b false)])
 (.ite (.u .not (.v 13))
 (.leaf [(.b false)])
 (.ite (.u .not (.o .and (.o .eq (.v 11) (.v 1)) (.o .and (.o .eq (.v 12) (.i 1)) (.b true))))
 (.leaf [(.b false)])
 (.call 16 [(.v 2)] 3
 (.call 16 [(.v 3)] 3
 (.ite (.u .not (.v 16))
 (.leaf [(.b false)])
 (.ite (.u .not (.v 19))
 (.leaf [(.b false)])
 (.ite (.u .not (.o .and (.o .eq (.v 14) (.v 17)) (.o .and (.o .eq (.v 15) (.v 18)) (.b true))))
 (.leaf [(.b false)])
 (.call 18 [(.v 2)] 3
 (.call 18 [(.v 3)] 3
 (.ite (.v 22)
 (.ite (.v 25)
 (.ite (.o .and (.o .eq (.v 20) (.v 23)) (.o .and (.o .eq (.v 21) (.v 24)) (.b true)))
 (.call 10 [] 1
 (.leaf [(.v 26)]))
 (.leaf [(.b false)]))
 (.leaf [(.b false)]))
 (.leaf [(.b false)]))))))))))))))))))))))
noncomputable def k_simulatorlaw48_BatchShifts : Known Try.prog := known mixedOk [k_simulatorlaw48_awake, k_batch_Mean, k_simulatorref02_Sub, k_batch_Variance, k_batch_Lag] (by decide) [⟨800005, [(5, 31), (6, 31), (7, 0)], [35, 36, 37, 38, 41, 42, 43, 44, 45, 46, 47, 48, 49, 50, 51, 52, 53, 54, 55, 56, 57, 58, 59, 60, 39, 40], [], []⟩] plTypes plOk inFuncs insOk 6 ⟨8, [(.a (.row 40 [(.int .i16)] false)), (.a (.ck (.int .i64)))], (.c (.a (.ck .bool)))⟩ (fun args w => Try.call8 args w) tk_simulatorlaw48_BatchShifts (by kernel_rfl)
theorem k_simulatorlaw48_BatchShifts_f : k_simulatorlaw48_BatchShifts.con.f = 8 := rfl
theorem k_simulatorlaw48_BatchShifts_F (l : List Sc) : k_simulatorlaw48_BatchShifts.F l = if l.length = 2 then tk_simulatorlaw48_BatchShifts.den (gam (P := Try.prog) [k_simulatorlaw48_awake, k_batch_Mean, k_simulatorref02_Sub, k_batch_Variance, k_batch_Lag]) l [] else none := rfl
def tk_simulatorlaw48_BatchLeast : T (List Ex) :=
 (.ite (.o .lt (.i 200) (.u .len (.v 0)))
 (.call 10 [] 1
 (.leaf [(.v 1)]))
 (.call 20 [(.v 0)] 2
 (.ite (.v 2)
 (.ite (.o .lt (.v 1) (.i 1))
 (.leaf [(.b false)])
 (.ite (.o .lt (.i 100) (.v 1))
 (.leaf [(.b false)])
 (.loop [(.i 1)]
 (.ite (.o .le (.v 3) (.i 100))
 (.call 11 [(.v 0), (.v 3)] 2
 (.call 18 [(.v 4)] 3
 (.ite (.o .eq (.v 5) (.i 0))
 (.ite (.o .le (.i 5) (.u .len (.v 4)))
 (.ite (.v 8)
 (.call 22 [(.v 6), (.v 7), (.i 1), (.i 5)] 1
 (.ite (.v 2)
 (.ite (.o .eq (.v 3) (.v 1))
 (.ite (.o .le (.v 9) (.i 0))
 (.call 10 [] 1
 (.leaf [(.v 10)]))
 (.leaf [(.b false)]))
 (.ite (.o .le (.v 9) (.i 0))
 (.leaf [(.b false)])
 (.next 0 [(.o (.add .i64) (.v 3) (.i 1))])))
 (.ite (.o .le (.v 9) (.i 0))
 (.leaf [(.b false)])
 (.next 0 [(.o (.add .i64) (.v 3) (.i 1))]))))
 (.ite (.v 2)
 (.ite (.o .eq (.v 3) (.v 1))
 (.leaf [(.b false)])
 (.next 0 [(.o (.add .i64) (.v 3) (.i 1))]))
 (.next 0 [(.o (.add .i64) (.v 3) (.i 1))])))
 (.ite (.v 2)
 (.ite (.o .eq (.v 3) (.v 1))
 (.leaf [(.b false)])
 (.next 0 [(.o (.add .i64) (.v 3) (.i 1))]))
 (.next 0 [(.o (.add .i64) (.v 3) (.i 1))])))
 (.ite (.v 2)
 (.ite (.o .eq (.v 3) (.v 1))
 (.leaf [(.b false)])
 (.next 0 [(.o (.add .i64) (.v 3) (.i 1))]))
 (.next 0 [(.o (.add .i64) (.v 3) (.i 1))])))))
 (.ite (.u .not (.v 2))
 (.call 10 [] 1
 (.leaf [(.v 4)]))
 (.leaf [(.b false)]))))))
 (.loop [(.i 1)]
 (.ite (.o .le (.v 3) (.i 100))
 (.call 11 [(.v 0), (.v 3)] 2
 (.call 18 [(.v 4)] 3
 (.ite (.o .eq (.v 5) (.i 0))
 (.ite (.o .le (.i 5) (.u .len (.v 4)))
 (.ite (.v 8)
 (.call 22 [(.v 6), (.v 7), (.i 1), (.i 5)] 1
 (.ite (.v 2)
 (.ite (.o .eq (.v 3) (.v 1))
 (.ite (.o .le (.v 9) (.i 0))
 (.call 10 [] 1
 (.leaf [(.v 10)]))
 (.leaf [(.b false)]))
 (.ite (.o .le (.v 9) (.i 0))
 (.leaf [(.b false)])
 (.next 0 [(.o (.add .i64) (.v 3) (.i 1))])))
 (.ite (.o .le (.v 9) (.i 0))
 (.leaf [(.b false)])
 (.next 0 [(.o (.add .i64) (.v 3) (.i 1))]))))
 (.ite (.v 2)
 (.ite (.o .eq (.v 3) (.v 1))
 (.leaf [(.b false)])
 (.next 0 [(.o (.add .i64) (.v 3) (.i 1))]))
 (.next 0 [(.o (.add .i64) (.v 3) (.i 1))])))
 (.ite (.v 2)
 (.ite (.o .eq (.v 3) (.v 1))
 (.leaf [(.b false)])
 (.next 0 [(.o (.add .i64) (.v 3) (.i 1))]))
 (.next 0 [(.o (.add .i64) (.v 3) (.i 1))])))
 (.ite (.v 2)
 (.ite (.o .eq (.v 3) (.v 1))
 (.leaf [(.b false)])
 (.next 0 [(.o (.add .i64) (.v 3) (.i 1))]))
 (.next 0 [(.o (.add .i64) (.v 3) (.i 1))])))))
 (.ite (.u .not (.v 2))
 (.call 10 [] 1
 (.leaf [(.v 4)]))
 (.leaf [(.b false)])))))))
noncomputable def k_simulatorlaw48_BatchLeast : Known Try.prog := known mixedOk [k_simulatorlaw48_awake, k_batch_Size, k_batch_Means, k_batch_Lag, k_simulatorref02_Cmp] (by decide) [⟨900007, [(5, 0)], [29, 30, 34, 35, 36, 33, 37, 38, 6, 7, 40, 41, 39, 42, 43, 8, 9, 44, 45, 46, 47, 48, 49, 50, 51, 52, 53, 54, 55, 56, 57, 58, 59, 10, 60, 61, 62, 63, 64, 65, 66, 67, 68, 69, 2, 70, 31, 32], [], []⟩] plTypes plOk inFuncs insOk 6 ⟨9, [(.a (.row 3 [(.int .i64)] false))], (.c (.a (.ck .bool)))⟩ (fun args w => Try.call9 args w) tk_simulatorlaw48_BatchLeast (by kernel_rfl)
theorem k_simulatorlaw48_BatchLeast_f : k_simulatorlaw48_BatchLeast.con.f = 9 := rfl
theorem k_simulatorlaw48_BatchLeast_F (l : List Sc) : k_simulatorlaw48_BatchLeast.F l = if l.length = 1 then tk_simulatorlaw48_BatchLeast.den (gam (P := Try.prog) [k_simulatorlaw48_awake, k_batch_Size, k_batch_Means, k_batch_Lag, k_simulatorref02_Cmp]) l [] else none := rfl
end Go.Proofs.Ytgekeolponbifaa
