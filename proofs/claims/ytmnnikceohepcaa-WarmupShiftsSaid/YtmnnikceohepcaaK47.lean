/-
  What the functions of this seat reckon: their trees, checked by the kernel. Printed by a program of mine.
-/
import Derived.Test.YtmnnikceohepcaaProg
import Derived.KernelRfl
import Derived.Test.YtmnnikceohepcaaSymX
import Derived.Test.YtmnnikceohepcaaExt
namespace Go.Proofs.Ytmnnikceohepcaa
open Go.RowKit
def plTypes : List Nat := [7, 8, 24, 25, 47, 48, 57, 58, 59, 60]
theorem plOk : PlainTy Try.prog plTypes := by
  intro t ht
  have := hasN_mem.1 ht
  simp only [plTypes, List.mem_cons, List.not_mem_nil, or_false] at this
  rcases this with rfl | rfl | rfl | rfl | rfl | rfl | rfl | rfl | rfl | rfl
  · exact ⟨Try.stoodInHeld7, Try.eqGuardType7⟩
  · exact ⟨Try.stoodInHeld8, Try.eqGuardType8⟩
  · exact ⟨Try.stoodInHeld24, Try.eqGuardType24⟩
  · exact ⟨Try.stoodInHeld25, Try.eqGuardType25⟩
  · exact ⟨Try.stoodInHeld47, Try.eqGuardType47⟩
  · exact ⟨Try.stoodInHeld48, Try.eqGuardType48⟩
  · exact ⟨Try.stoodInHeld57, Try.eqGuardType57⟩
  · exact ⟨Try.stoodInHeld58, Try.eqGuardType58⟩
  · exact ⟨Try.stoodInHeld59, Try.eqGuardType59⟩
  · exact ⟨Try.stoodInHeld60, Try.eqGuardType60⟩
def inFuncs : List Nat := [20, 21, 31, 32]
theorem insOk : ∀ f, hasN inFuncs f = true → ∀ args w, (callFunc f args).run Try.prog w = .ok (.enter f args) w := by
  intro f hf
  have := hasN_mem.1 hf
  simp only [inFuncs, List.mem_cons, List.not_mem_nil, or_false] at this
  rcases this with rfl | rfl | rfl | rfl
  · exact fun args w => Try.call20 args w
  · exact fun args w => Try.call21 args w
  · exact fun args w => Try.call31 args w
  · exact fun args w => Try.call32 args w
theorem mixedOk : Try.prog.follows .mixedOrders = true := by kernel_rfl
noncomputable def k_bits_Add64 : Known Try.prog := ⟨carryCon 50, add64F, add64_holds Try.func50 (by kernel_rfl) (by kernel_rfl) (by kernel_rfl) (by kernel_rfl)⟩
theorem k_bits_Add64_f : k_bits_Add64.con.f = 50 := rfl
theorem k_bits_Add64_F (l : List Sc) : k_bits_Add64.F l = add64F l := rfl
noncomputable def k_bits_Sub64 : Known Try.prog := ⟨carryCon 51, sub64F, sub64_holds Try.func51 (by kernel_rfl) (by kernel_rfl) (by kernel_rfl) (by kernel_rfl)⟩
theorem k_bits_Sub64_f : k_bits_Sub64.con.f = 51 := rfl
theorem k_bits_Sub64_F (l : List Sc) : k_bits_Sub64.F l = sub64F l := rfl
def tk_warmup_Cut : T (List Ex) :=
 (.need (.o .le (.i 0) (.o .max (.i 0) (.o .min (.v 1) (.u .len (.v 0))))) (.need (.o .le (.o .max (.i 0) (.o .min (.v 1) (.u .len (.v 0)))) (.u .len (.v 0))) (.need (.o .le (.u .len (.v 0)) (.u .len (.v 0))) (.leaf [(.t .lsub (.v 0) (.o .max (.i 0) (.o .min (.v 1) (.u .len (.v 0)))) (.o (.add .i64) (.o .max (.i 0) (.o .min (.v 1) (.u .len (.v 0)))) (.o (.sub .i64) (.u .len (.v 0)) (.o .max (.i 0) (.o .min (.v 1) (.u .len (.v 0)))))))]))))
noncomputable def k_warmup_Cut : Known Try.prog := known mixedOk [] (by decide) [] plTypes plOk inFuncs insOk 6 ⟨15, [(.a (.row 3 [(.int .i64)] false)), (.a (.ck (.int .i64)))], (.c (.a (.row 3 [(.int .i64)] false)))⟩ (fun args w => Try.call15 args w) tk_warmup_Cut (by kernel_rfl)
theorem k_warmup_Cut_f : k_warmup_Cut.con.f = 15 := rfl
theorem k_warmup_Cut_F (l : List Sc) : k_warmup_Cut.F l = if l.length = 2 then tk_warmup_Cut.den (gam (P := Try.prog) []) l [] else none := rfl
def tk_simulatorref47_SameInts : T (List Ex) :=
 (.ite (.o .ne (.u .len (.v 0)) (.u .len (.v 1)))
 (.leaf [(.b false)])
 (.loop [(.i 0)]
 (.ite (.o .lt (.v 2) (.u .len (.v 0)))
 (.need (.o .le (.i 0) (.v 2)) (.need (.o .lt (.v 2) (.u .len (.v 0))) (.need (.o .le (.i 0) (.v 2)) (.need (.o .lt (.v 2) (.u .len (.v 1))) (.ite (.o .ne (.o .idx (.v 0) (.v 2)) (.o .idx (.v 1) (.v 2)))
 (.leaf [(.b false)])
 (.next 0 [(.o (.add .i64) (.v 2) (.i 1))]))))))
 (.leaf [(.b true)]))))
noncomputable def k_simulatorref47_SameInts : Known Try.prog := known mixedOk [] (by decide) [⟨1600004, [(5, 0)], [11, 12, 13, 14, 17, 18, 19, 20, 21, 22, 23, 24, 25, 4, 15, 16], [], []⟩] plTypes plOk inFuncs insOk 6 ⟨16, [(.a (.row 3 [(.int .i64)] false)), (.a (.row 3 [(.int .i64)] false))], (.c (.a (.ck .bool)))⟩ (fun args w => Try.call16 args w) tk_simulatorref47_SameInts (by kernel_rfl)
theorem k_simulatorref47_SameInts_f : k_simulatorref47_SameInts.con.f = 16 := rfl
theorem k_simulatorref47_SameInts_F (l : List Sc) : k_simulatorref47_SameInts.F l = if l.length = 2 then tk_simulatorref47_SameInts.den (gam (P := Try.prog) []) l [] else none := rfl
def tk_simulatorref47_Cut : T (List Ex) :=
 (.loop [.nil, (.i 0)]
 (.ite (.o .lt (.v 3) (.u .len (.v 0)))
 (.ite (.o .le (.v 1) (.v 3))
 (.need (.o .le (.i 0) (.v 3)) (.need (.o .lt (.v 3) (.u .len (.v 0))) (.need (.o .le (.u .len (.o .snoc (.v 2) (.o .idx (.v 0) (.v 3)))) (.i 17592186044416)) (.next 0 [(.o .snoc (.v 2) (.o .idx (.v 0) (.v 3))), (.o (.add .i64) (.v 3) (.i 1))]))))
 (.next 0 [(.v 2), (.o (.add .i64) (.v 3) (.i 1))]))
 (.leaf [(.v 2)])))
noncomputable def k_simulatorref47_Cut : Known Try.prog := known mixedOk [] (by decide) [⟨1700003, [(5, 3), (6, 0)], [7, 8, 9, 10, 13, 14, 15, 16, 17, 18, 19, 20, 21, 22, 11, 12], [], []⟩] plTypes plOk inFuncs insOk 6 ⟨17, [(.a (.row 3 [(.int .i64)] false)), (.a (.ck (.int .i64)))], (.c (.a (.row 3 [(.int .i64)] false)))⟩ (fun args w => Try.call17 args w) tk_simulatorref47_Cut (by kernel_rfl)
theorem k_simulatorref47_Cut_f : k_simulatorref47_Cut.con.f = 17 := rfl
theorem k_simulatorref47_Cut_F (l : List Sc) : k_simulatorref47_Cut.F l = if l.length = 2 then tk_simulatorref47_Cut.den (gam (P := Try.prog) []) l [] else none := rfl
def tk_simulatorref47_Batched : T (List Ex) :=
 (.ite (.o .lt (.v 1) (.i 1))
 (.leaf [.nil, (.i 2)])
 (.ite (.o .lt (.i 100) (.v 1))
 (.leaf [.nil, (.i 2)])
 (.loop [(.i 0)]
 (.ite (.o .lt (.v 2) (.u .len (.v 0)))
 (.need (.o .le (.i 0) (.v 2)) (.need (.o .lt (.v 2) (.u .len (.v 0))) (.ite (.o .lt (.o .idx (.v 0) (.v 2)) (.i (-1000000000000)))
 (.leaf [.nil, (.i 2)])
 (.need (.o .le (.i 0) (.v 2)) (.need (.o .lt (.v 2) (.u .len (.v 0))) (.ite (.o .lt (.i 1000000000000) (.o .idx (.v 0) (.v 2)))
 (.leaf [.nil, (.i 2)])
 (.next 0 [(.o (.add .i64) (.v 2) (.i 1))])))))))
 (.loop [.nil, (.i 0)]
 (.ite (.o .le (.o (.add .i64) (.v 4) (.v 1)) (.u .len (.v 0)))
 (.loop [(.i 0), (.i 0)]
 (.ite (.o .lt (.v 6) (.v 1))
 (.need (.o .le (.i 0) (.o (.add .i64) (.v 4) (.v 6))) (.need (.o .lt (.o (.add .i64) (.v 4) (.v 6)) (.u .len (.v 0))) (.next 2 [(.o (.add .i64) (.v 5) (.o .idx (.v 0) (.o (.add .i64) (.v 4) (.v 6)))), (.o (.add .i64) (.v 6) (.i 1))])))
 (.need (.o .le (.u .len (.o .snoc (.v 3) (.v 5))) (.i 17592186044416)) (.next 1 [(.o .snoc (.v 3) (.v 5)), (.o (.add .i64) (.v 4) (.v 1))]))))
 (.leaf [(.v 3), (.i 0)])))))))
noncomputable def k_simulatorref47_Batched : Known Try.prog := known mixedOk [] (by decide) [⟨1900014, [(9, 0), (10, 0)], [44, 45, 46, 49, 50, 51, 52, 53, 54, 55, 56, 47, 48], [], []⟩, ⟨1900010, [(7, 3), (8, 0)], [35, 36, 37, 38, 39, 40, 9, 10, 44, 45, 46, 49, 50, 51, 52, 53, 54, 55, 56, 47, 48, 57, 58, 59, 60, 41, 42, 43], [], []⟩, ⟨1900004, [(6, 0)], [17, 18, 19, 20, 23, 24, 25, 26, 27, 28, 29, 30, 31, 32, 33, 34, 4, 5, 21, 22], [], []⟩] plTypes plOk inFuncs insOk 6 ⟨19, [(.a (.row 3 [(.int .i64)] false)), (.a (.ck (.int .i64)))], (.t [(.a (.row 3 [(.int .i64)] false)), (.a (.ck (.int .i64)))])⟩ (fun args w => Try.call19 args w) tk_simulatorref47_Batched (by kernel_rfl)
theorem k_simulatorref47_Batched_f : k_simulatorref47_Batched.con.f = 19 := rfl
theorem k_simulatorref47_Batched_F (l : List Sc) : k_simulatorref47_Batched.F l = if l.length = 2 then tk_simulatorref47_Batched.den (gam (P := Try.prog) []) l [] else none := rfl
def tk_warmup_outside : T (List Ex) :=
 (.ite (.o .lt (.v 0) (.o (.sub .i64) (.i 0) (.v 1)))
 (.leaf [(.b true)])
 (.leaf [(.o .lt (.v 1) (.v 0))]))
noncomputable def k_warmup_outside : Known Try.prog := known mixedOk [] (by decide) [] plTypes plOk inFuncs insOk 6 ⟨22, [(.a (.ck (.int .i64))), (.a (.ck (.int .i64)))], (.c (.a (.ck .bool)))⟩ (fun args w => Try.call22 args w) tk_warmup_outside (by kernel_rfl)
theorem k_warmup_outside_f : k_warmup_outside.con.f = 22 := rfl
theorem k_warmup_outside_F (l : List Sc) : k_warmup_outside.F l = if l.length = 2 then tk_warmup_outside.den (gam (P := Try.prog) []) l [] else none := rfl
def tk_simulatorref47_valid : T (List Ex) :=
 (.ite (.o .lt (.i 1000) (.u .len (.v 0)))
 (.leaf [(.b false)])
 (.loop [(.i 0)]
 (.ite (.o .lt (.v 1) (.u .len (.v 0)))
 (.need (.o .le (.i 0) (.v 1)) (.need (.o .lt (.v 1) (.u .len (.v 0))) (.ite (.o .lt (.o .idx (.v 0) (.v 1)) (.i (-10000)))
 (.leaf [(.b false)])
 (.need (.o .le (.i 0) (.v 1)) (.need (.o .lt (.v 1) (.u .len (.v 0))) (.ite (.o .lt (.i 10000) (.o .idx (.v 0) (.v 1)))
 (.leaf [(.b false)])
 (.next 0 [(.o (.add .i64) (.v 1) (.i 1))])))))))
 (.leaf [(.b true)]))))
noncomputable def k_simulatorref47_valid : Known Try.prog := known mixedOk [] (by decide) [⟨2400004, [(3, 0)], [7, 8, 9, 10, 13, 14, 15, 16, 17, 18, 19, 20, 21, 22, 23, 24, 2, 11, 12], [], []⟩] plTypes plOk inFuncs insOk 6 ⟨24, [(.a (.row 3 [(.int .i64)] false))], (.c (.a (.ck .bool)))⟩ (fun args w => Try.call24 args w) tk_simulatorref47_valid (by kernel_rfl)
theorem k_simulatorref47_valid_f : k_simulatorref47_valid.con.f = 24 := rfl
theorem k_simulatorref47_valid_F (l : List Sc) : k_simulatorref47_valid.F l = if l.length = 1 then tk_simulatorref47_valid.den (gam (P := Try.prog) []) l [] else none := rfl
def tk_frac_size : T (List Ex) :=
 (.ite (.o .lt (.v 0) (.i 0))
 (.leaf [(.o (.sub .u64) (.i 0) (.u (.conv .u64) (.v 0)))])
 (.leaf [(.u (.conv .u64) (.v 0))]))
noncomputable def k_frac_size : Known Try.prog := known mixedOk [] (by decide) [] plTypes plOk inFuncs insOk 6 ⟨30, [(.a (.ck (.int .i64)))], (.c (.a (.ck (.int .u64))))⟩ (fun args w => Try.call30 args w) tk_frac_size (by kernel_rfl)
theorem k_frac_size_f : k_frac_size.con.f = 30 := rfl
theorem k_frac_size_F (l : List Sc) : k_frac_size.F l = if l.length = 1 then tk_frac_size.den (gam (P := Try.prog) []) l [] else none := rfl
def tk_frac_gcd : T (List Ex) :=
 (.loop [(.v 0), (.v 1)]
 (.ite (.o .ne (.v 3) (.i 0))
 (.need (.o .ne (.v 3) (.i 0)) (.next 0 [(.v 3), (.o (.rem .u64) (.v 2) (.v 3))]))
 (.leaf [(.v 2)])))
noncomputable def k_frac_gcd : Known Try.prog := known mixedOk [] (by decide) [⟨3300001, [(0, 0), (1, 0)], [5, 6, 7, 8, 9, 10], [], []⟩] plTypes plOk inFuncs insOk 6 ⟨33, [(.a (.ck (.int .u64))), (.a (.ck (.int .u64)))], (.c (.a (.ck (.int .u64))))⟩ (fun args w => Try.call33 args w) tk_frac_gcd (by kernel_rfl)
theorem k_frac_gcd_f : k_frac_gcd.con.f = 33 := rfl
theorem k_frac_gcd_F (l : List Sc) : k_frac_gcd.F l = if l.length = 2 then tk_frac_gcd.den (gam (P := Try.prog) []) l [] else none := rfl
def tk_frac_made : T (List Ex) :=
 (.ite (.o .lt (.i 4611686018427387904) (.v 1))
 (.leaf [(.i 0), (.i 0), (.b false)])
 (.ite (.o .lt (.i 1000000000000000) (.v 2))
 (.leaf [(.i 0), (.i 0), (.b false)])
 (.ite (.v 0)
 (.leaf [(.o (.sub .i64) (.i 0) (.u (.conv .i64) (.v 1))), (.u (.conv .i64) (.v 2)), (.b true)])
 (.leaf [(.u (.conv .i64) (.v 1)), (.u (.conv .i64) (.v 2)), (.b true)]))))
noncomputable def k_frac_made : Known Try.prog := known mixedOk [] (by decide) [] plTypes plOk inFuncs insOk 6 ⟨34, [(.a (.ck .bool)), (.a (.ck (.int .u64))), (.a (.ck (.int .u64)))], (.t [(.g [(.ck (.int .i64)), (.ck (.int .i64))]), (.a (.ck .bool))])⟩ (fun args w => Try.call34 args w) tk_frac_made (by kernel_rfl)
theorem k_frac_made_f : k_frac_made.con.f = 34 := rfl
theorem k_frac_made_F (l : List Sc) : k_frac_made.F l = if l.length = 3 then tk_frac_made.den (gam (P := Try.prog) []) l [] else none := rfl
def tk_simulatorref02_Size : T (List Ex) :=
 (.ite (.o .lt (.v 0) (.i 0))
 (.leaf [(.o (.add .u64) (.u (.conv .u64) (.o (.sub .i64) (.i 0) (.o (.add .i64) (.v 0) (.i 1)))) (.i 1))])
 (.leaf [(.u (.conv .u64) (.v 0))]))
noncomputable def k_simulatorref02_Size : Known Try.prog := known mixedOk [] (by decide) [] plTypes plOk inFuncs insOk 6 ⟨36, [(.a (.ck (.int .i64)))], (.c (.a (.ck (.int .u64))))⟩ (fun args w => Try.call36 args w) tk_simulatorref02_Size (by kernel_rfl)
theorem k_simulatorref02_Size_f : k_simulatorref02_Size.con.f = 36 := rfl
theorem k_simulatorref02_Size_F (l : List Sc) : k_simulatorref02_Size.F l = if l.length = 1 then tk_simulatorref02_Size.den (gam (P := Try.prog) []) l [] else none := rfl
def tk_frac_wide_plus : T (List Ex) :=
 (.call 50 [(.v 1), (.v 3), (.i 0)] 2
 (.call 50 [(.v 0), (.v 2), (.v 5)] 2
 (.leaf [(.v 6), (.v 4)])))
noncomputable def k_frac_wide_plus : Known Try.prog := known mixedOk [k_bits_Add64] (by decide) [] plTypes plOk inFuncs insOk 6 ⟨40, [(.g [(.ck (.int .u64)), (.ck (.int .u64))]), (.g [(.ck (.int .u64)), (.ck (.int .u64))])], (.c (.g [(.ck (.int .u64)), (.ck (.int .u64))]))⟩ (fun args w => Try.call40 args w) tk_frac_wide_plus (by kernel_rfl)
theorem k_frac_wide_plus_f : k_frac_wide_plus.con.f = 40 := rfl
theorem k_frac_wide_plus_F (l : List Sc) : k_frac_wide_plus.F l = if l.length = 4 then tk_frac_wide_plus.den (gam (P := Try.prog) [k_bits_Add64]) l [] else none := rfl
def tk_frac_wide_minus : T (List Ex) :=
 (.ite (.o .lt (.v 0) (.v 2))
 (.call 41 [(.v 2), (.v 3), (.v 0), (.v 1)] 3
 (.leaf [(.v 4), (.v 5), (.b true)]))
 (.ite (.o .eq (.v 0) (.v 2))
 (.ite (.o .lt (.v 1) (.v 3))
 (.call 41 [(.v 2), (.v 3), (.v 0), (.v 1)] 3
 (.leaf [(.v 4), (.v 5), (.b true)]))
 (.call 51 [(.v 1), (.v 3), (.i 0)] 2
 (.call 51 [(.v 0), (.v 2), (.v 5)] 2
 (.leaf [(.v 6), (.v 4), (.b false)]))))
 (.call 51 [(.v 1), (.v 3), (.i 0)] 2
 (.call 51 [(.v 0), (.v 2), (.v 5)] 2
 (.leaf [(.v 6), (.v 4), (.b false)])))))
noncomputable def k_frac_wide_minus_rec0 : Nat → {k : Known Try.prog // k.con = ⟨41, [(.g [(.ck (.int .u64)), (.ck (.int .u64))]), (.g [(.ck (.int .u64)), (.ck (.int .u64))])], (.t [(.g [(.ck (.int .u64)), (.ck (.int .u64))]), (.a (.ck .bool))])⟩} := knownRec mixedOk [k_bits_Sub64] ⟨41, [(.g [(.ck (.int .u64)), (.ck (.int .u64))]), (.g [(.ck (.int .u64)), (.ck (.int .u64))])], (.t [(.g [(.ck (.int .u64)), (.ck (.int .u64))]), (.a (.ck .bool))])⟩ (by decide) [] plTypes plOk inFuncs insOk 6 (fun args w => Try.call41 args w) tk_frac_wide_minus (by kernel_rfl)
noncomputable def k_frac_wide_minus_rec (n : Nat) : Known Try.prog := (k_frac_wide_minus_rec0 n).1
theorem k_frac_wide_minus_rec_con (n : Nat) : (k_frac_wide_minus_rec n).con = ⟨41, [(.g [(.ck (.int .u64)), (.ck (.int .u64))]), (.g [(.ck (.int .u64)), (.ck (.int .u64))])], (.t [(.g [(.ck (.int .u64)), (.ck (.int .u64))]), (.a (.ck .bool))])⟩ := (k_frac_wide_minus_rec0 n).2
theorem k_frac_wide_minus_rec_f (n : Nat) : (k_frac_wide_minus_rec n).con.f = 41 := by rw [k_frac_wide_minus_rec_con]
theorem k_frac_wide_minus_rec_F (n : Nat) (l : List Sc) : (k_frac_wide_minus_rec (n + 1)).F l = if l.length = 4 then tk_frac_wide_minus.den (gam (P := Try.prog) (k_frac_wide_minus_rec n :: [k_bits_Sub64])) l [] else none := rfl
noncomputable def k_frac_wide_minus : Known Try.prog := ⟨⟨41, [(.g [(.ck (.int .u64)), (.ck (.int .u64))]), (.g [(.ck (.int .u64)), (.ck (.int .u64))])], (.t [(.g [(.ck (.int .u64)), (.ck (.int .u64))]), (.a (.ck .bool))])⟩, (k_frac_wide_minus_rec rounds).F, by rw [← k_frac_wide_minus_rec_con rounds]; exact (k_frac_wide_minus_rec rounds).holds⟩
theorem k_frac_wide_minus_f : k_frac_wide_minus.con.f = 41 := rfl
theorem k_frac_wide_minus_F (l : List Sc) : k_frac_wide_minus.F l = (k_frac_wide_minus_rec rounds).F l := rfl
def tk_bits_Mul64 : T (List Ex) :=
 (.leaf [(.o (.add .u64) (.o (.add .u64) (.o (.mul .u64) (.o (.shr .u64) (.v 0) (.i 32)) (.o (.shr .u64) (.v 1) (.i 32))) (.o (.shr .u64) (.o (.add .u64) (.o (.mul .u64) (.o (.shr .u64) (.v 0) (.i 32)) (.o (.band .u64) (.v 1) (.i 4294967295))) (.o (.shr .u64) (.o (.mul .u64) (.o (.band .u64) (.v 0) (.i 4294967295)) (.o (.band .u64) (.v 1) (.i 4294967295))) (.i 32))) (.i 32))) (.o (.shr .u64) (.o (.add .u64) (.o (.band .u64) (.o (.add .u64) (.o (.mul .u64) (.o (.shr .u64) (.v 0) (.i 32)) (.o (.band .u64) (.v 1) (.i 4294967295))) (.o (.shr .u64) (.o (.mul .u64) (.o (.band .u64) (.v 0) (.i 4294967295)) (.o (.band .u64) (.v 1) (.i 4294967295))) (.i 32))) (.i 4294967295)) (.o (.mul .u64) (.o (.band .u64) (.v 0) (.i 4294967295)) (.o (.shr .u64) (.v 1) (.i 32)))) (.i 32))), (.o (.mul .u64) (.v 0) (.v 1))])
noncomputable def k_bits_Mul64 : Known Try.prog := known mixedOk [] (by decide) [] plTypes plOk inFuncs insOk 6 ⟨42, [(.a (.ck (.int .u64))), (.a (.ck (.int .u64)))], (.t [(.a (.ck (.int .u64))), (.a (.ck (.int .u64)))])⟩ (fun args w => Try.call42 args w) tk_bits_Mul64 (by kernel_rfl)
theorem k_bits_Mul64_f : k_bits_Mul64.con.f = 42 := rfl
theorem k_bits_Mul64_F (l : List Sc) : k_bits_Mul64.F l = if l.length = 2 then tk_bits_Mul64.den (gam (P := Try.prog) []) l [] else none := rfl
def tk_simulatorref02_Plus : T (List Ex) :=
 (.ite (.o .lt (.o (.add .u64) (.v 1) (.v 3)) (.v 1))
 (.leaf [(.o (.add .u64) (.o (.add .u64) (.v 0) (.v 2)) (.i 1)), (.o (.add .u64) (.v 1) (.v 3))])
 (.leaf [(.o (.add .u64) (.v 0) (.v 2)), (.o (.add .u64) (.v 1) (.v 3))]))
noncomputable def k_simulatorref02_Plus : Known Try.prog := known mixedOk [] (by decide) [] plTypes plOk inFuncs insOk 6 ⟨46, [(.g [(.ck (.int .u64)), (.ck (.int .u64))]), (.g [(.ck (.int .u64)), (.ck (.int .u64))])], (.c (.g [(.ck (.int .u64)), (.ck (.int .u64))]))⟩ (fun args w => Try.call46 args w) tk_simulatorref02_Plus (by kernel_rfl)
theorem k_simulatorref02_Plus_f : k_simulatorref02_Plus.con.f = 46 := rfl
theorem k_simulatorref02_Plus_F (l : List Sc) : k_simulatorref02_Plus.F l = if l.length = 4 then tk_simulatorref02_Plus.den (gam (P := Try.prog) []) l [] else none := rfl
def tk_simulatorref02_Less : T (List Ex) :=
 (.ite (.o .lt (.v 0) (.v 2))
 (.leaf [(.b true)])
 (.ite (.o .eq (.v 0) (.v 2))
 (.leaf [(.o .lt (.v 1) (.v 3))])
 (.leaf [(.b false)])))
noncomputable def k_simulatorref02_Less : Known Try.prog := known mixedOk [] (by decide) [] plTypes plOk inFuncs insOk 6 ⟨47, [(.g [(.ck (.int .u64)), (.ck (.int .u64))]), (.g [(.ck (.int .u64)), (.ck (.int .u64))])], (.c (.a (.ck .bool)))⟩ (fun args w => Try.call47 args w) tk_simulatorref02_Less (by kernel_rfl)
theorem k_simulatorref02_Less_f : k_simulatorref02_Less.con.f = 47 := rfl
theorem k_simulatorref02_Less_F (l : List Sc) : k_simulatorref02_Less.F l = if l.length = 4 then tk_simulatorref02_Less.den (gam (P := Try.prog) []) l [] else none := rfl
def tk_simulatorref02_Minus : T (List Ex) :=
 (.ite (.o .lt (.v 1) (.v 3))
 (.leaf [(.o (.sub .u64) (.o (.sub .u64) (.v 0) (.v 2)) (.i 1)), (.o (.sub .u64) (.v 1) (.v 3))])
 (.leaf [(.o (.sub .u64) (.v 0) (.v 2)), (.o (.sub .u64) (.v 1) (.v 3))]))
noncomputable def k_simulatorref02_Minus : Known Try.prog := known mixedOk [] (by decide) [] plTypes plOk inFuncs insOk 6 ⟨48, [(.g [(.ck (.int .u64)), (.ck (.int .u64))]), (.g [(.ck (.int .u64)), (.ck (.int .u64))])], (.c (.g [(.ck (.int .u64)), (.ck (.int .u64))]))⟩ (fun args w => Try.call48 args w) tk_simulatorref02_Minus (by kernel_rfl)
theorem k_simulatorref02_Minus_f : k_simulatorref02_Minus.con.f = 48 := rfl
theorem k_simulatorref02_Minus_F (l : List Sc) : k_simulatorref02_Minus.F l = if l.length = 4 then tk_simulatorref02_Minus.den (gam (P := Try.prog) []) l [] else none := rfl
def tk_simulatorref02_bit : T (List Ex) :=
 (.ite (.o .le (.i 64) (.v 2))
 (.need (.o .le (.i 0) (.u (.conv .u64) (.o (.sub .i64) (.v 2) (.i 64)))) (.leaf [(.o (.rem .u64) (.o (.shr .u64) (.v 0) (.u (.conv .u64) (.o (.sub .i64) (.v 2) (.i 64)))) (.i 2))]))
 (.need (.o .le (.i 0) (.u (.conv .u64) (.v 2))) (.leaf [(.o (.rem .u64) (.o (.shr .u64) (.v 1) (.u (.conv .u64) (.v 2))) (.i 2))])))
noncomputable def k_simulatorref02_bit : Known Try.prog := known mixedOk [] (by decide) [] plTypes plOk inFuncs insOk 6 ⟨52, [(.g [(.ck (.int .u64)), (.ck (.int .u64))]), (.a (.ck (.int .i64)))], (.c (.a (.ck (.int .u64))))⟩ (fun args w => Try.call52 args w) tk_simulatorref02_bit (by kernel_rfl)
theorem k_simulatorref02_bit_f : k_simulatorref02_bit.con.f = 52 := rfl
theorem k_simulatorref02_bit_F (l : List Sc) : k_simulatorref02_bit.F l = if l.length = 3 then tk_simulatorref02_bit.den (gam (P := Try.prog) []) l [] else none := rfl
def tk_simulatorref02_Scale : T (List Ex) :=
 (.loop [(.i 63), (.i 0), (.i 0)]
 (.ite (.o .le (.i 0) (.v 3))
 (.call 46 [(.v 4), (.v 5), (.v 4), (.v 5)] 2
 (.call 52 [(.i 0), (.v 2), (.v 3)] 1
 (.ite (.o .eq (.v 8) (.i 1))
 (.call 46 [(.v 6), (.v 7), (.v 0), (.v 1)] 2
 (.next 0 [(.o (.sub .i64) (.v 3) (.i 1)), (.v 9), (.v 10)]))
 (.next 0 [(.o (.sub .i64) (.v 3) (.i 1)), (.v 6), (.v 7)]))))
 (.leaf [(.v 4), (.v 5)])))
noncomputable def k_simulatorref02_Scale : Known Try.prog := known mixedOk [k_simulatorref02_Plus, k_simulatorref02_bit] (by decide) [⟨5300003, [(6, 0)], [8, 9, 12, 13, 14, 15, 16, 17, 18, 19, 20, 21, 22, 10, 11], [(2, (0, 0)), (2, (1, 0))], []⟩] plTypes plOk inFuncs insOk 6 ⟨53, [(.g [(.ck (.int .u64)), (.ck (.int .u64))]), (.a (.ck (.int .u64)))], (.c (.g [(.ck (.int .u64)), (.ck (.int .u64))]))⟩ (fun args w => Try.call53 args w) tk_simulatorref02_Scale (by kernel_rfl)
theorem k_simulatorref02_Scale_f : k_simulatorref02_Scale.con.f = 53 := rfl
theorem k_simulatorref02_Scale_F (l : List Sc) : k_simulatorref02_Scale.F l = if l.length = 3 then tk_simulatorref02_Scale.den (gam (P := Try.prog) [k_simulatorref02_Plus, k_simulatorref02_bit]) l [] else none := rfl
def tk_warmup_Batched : T (List Ex) :=
 (.ite (.o .lt (.v 1) (.i 1))
 (.leaf [.nil, (.i 2)])
 (.ite (.o .lt (.i 100) (.v 1))
 (.leaf [.nil, (.i 2)])
 (.loop [(.i 0)]
 (.ite (.o .lt (.v 2) (.u .len (.v 0)))
 (.need (.o .le (.i 0) (.v 2)) (.need (.o .lt (.v 2) (.u .len (.v 0))) (.call 22 [(.o .idx (.v 0) (.v 2)), (.i 1000000000000)] 1
 (.ite (.v 3)
 (.ite (.o .le (.i 0) (.v 2))
 (.leaf [.nil, (.i 2)])
 (.loop [.nil, (.i 0), (.u .len (.v 0))]
 (.ite (.o .le (.v 1) (.v 6))
 (.need (.o .le (.i 0) (.v 1)) (.need (.o .le (.v 1) (.v 6)) (.loop [(.i 0), (.i 0)]
 (.ite (.o .lt (.v 8) (.o (.sub .i64) (.v 1) (.i 0)))
 (.need (.o .le (.i 0) (.v 8)) (.need (.o .lt (.v 8) (.o (.sub .i64) (.v 1) (.i 0))) (.next 2 [(.o (.add .i64) (.v 7) (.o .idx (.v 0) (.o (.add .i64) (.o (.add .i64) (.v 5) (.i 0)) (.v 8)))), (.o (.add .i64) (.v 8) (.i 1))])))
 (.need (.o .le (.u .len (.o .snoc (.v 4) (.v 7))) (.i 17592186044416)) (.need (.o .le (.i 0) (.v 1)) (.need (.o .le (.v 1) (.v 6)) (.need (.o .le (.v 6) (.v 6)) (.next 1 [(.o .snoc (.v 4) (.v 7)), (.o (.add .i64) (.v 5) (.v 1)), (.o (.sub .i64) (.v 6) (.v 1))])))))))))
 (.leaf [(.v 4), (.i 0)]))))
 (.next 0 [(.o (.add .i64) (.v 2) (.i 1))])))))
 (.loop [.nil, (.i 0), (.u .len (.v 0))]
 (.ite (.o .le (.v 1) (.v 5))
 (.need (.o .le (.i 0) (.v 1)) (.need (.o .le (.v 1) (.v 5)) (.loop [(.i 0), (.i 0)]
 (.ite (.o .lt (.v 7) (.o (.sub .i64) (.v 1) (.i 0)))
 (.need (.o .le (.i 0) (.v 7)) (.need (.o .lt (.v 7) (.o (.sub .i64) (.v 1) (.i 0))) (.next 2 [(.o (.add .i64) (.v 6) (.o .idx (.v 0) (.o (.add .i64) (.o (.add .i64) (.v 4) (.i 0)) (.v 7)))), (.o (.add .i64) (.v 7) (.i 1))])))
 (.need (.o .le (.u .len (.o .snoc (.v 3) (.v 6))) (.i 17592186044416)) (.need (.o .le (.i 0) (.v 1)) (.need (.o .le (.v 1) (.v 5)) (.need (.o .le (.v 5) (.v 5)) (.next 1 [(.o .snoc (.v 3) (.v 6)), (.o (.add .i64) (.v 4) (.v 1)), (.o (.sub .i64) (.v 5) (.v 1))])))))))))
 (.leaf [(.v 3), (.i 0)])))))))
noncomputable def k_warmup_Batched : Known Try.prog := known mixedOk [k_warmup_outside] (by decide) [⟨1800008, [(7, 0), (31, 0)], [32, 33, 34, 9, 35, 36, 37, 38], [], []⟩, ⟨1800004, [(6, 3), (0, 3)], [20, 21, 22, 23, 7, 27, 28, 29, 30, 31, 32, 33, 34, 9, 35, 36, 37, 38, 39, 40, 41, 42, 24, 25, 26], [], []⟩, ⟨3200002, [(8, 0)], [9, 10, 5, 11, 12, 13, 14, 15, 16, 17, 4, 18], [], []⟩] plTypes plOk inFuncs insOk 6 ⟨18, [(.a (.row 3 [(.int .i64)] false)), (.a (.ck (.int .i64)))], (.t [(.a (.row 3 [(.int .i64)] false)), (.a (.ck (.int .i64)))])⟩ (fun args w => Try.call18 args w) tk_warmup_Batched (by kernel_rfl)
theorem k_warmup_Batched_f : k_warmup_Batched.con.f = 18 := rfl
theorem k_warmup_Batched_F (l : List Sc) : k_warmup_Batched.F l = if l.length = 2 then tk_warmup_Batched.den (gam (P := Try.prog) [k_warmup_outside]) l [] else none := rfl
def tk_frac_Of : T (List Ex) :=
 (.ite (.o .eq (.v 1) (.i 0))
 (.leaf [(.i 0), (.i 0), (.b false)])
 (.call 30 [(.v 0)] 1
 (.call 30 [(.v 1)] 1
 (.call 33 [(.v 2), (.v 3)] 1
 (.call 30 [(.v 0)] 1
 (.need (.o .ne (.v 4) (.i 0)) (.call 30 [(.v 1)] 1
 (.need (.o .ne (.v 4) (.i 0)) (.call 34 [(.u .not (.o .beq (.o .lt (.v 0) (.i 0)) (.o .lt (.v 1) (.i 0)))), (.o (.quo .u64) (.v 5) (.v 4)), (.o (.quo .u64) (.v 6) (.v 4))] 3
 (.leaf [(.v 7), (.v 8), (.v 9)]))))))))))
noncomputable def k_frac_Of : Known Try.prog := known mixedOk [k_frac_size, k_frac_gcd, k_frac_made] (by decide) [] plTypes plOk inFuncs insOk 6 ⟨23, [(.a (.ck (.int .i64))), (.a (.ck (.int .i64)))], (.t [(.g [(.ck (.int .i64)), (.ck (.int .i64))]), (.a (.ck .bool))])⟩ (fun args w => Try.call23 args w) tk_frac_Of (by kernel_rfl)
theorem k_frac_Of_f : k_frac_Of.con.f = 23 := rfl
theorem k_frac_Of_F (l : List Sc) : k_frac_Of.F l = if l.length = 2 then tk_frac_Of.den (gam (P := Try.prog) [k_frac_size, k_frac_gcd, k_frac_made]) l [] else none := rfl
def tk_frac_Valid : T (List Ex) :=
 (.ite (.o .le (.i 1) (.v 1))
 (.ite (.o .le (.v 1) (.i 1000000000000000))
 (.call 30 [(.v 0)] 1
 (.ite (.o .le (.v 2) (.i 4611686018427387904))
 (.call 30 [(.v 0)] 1
 (.call 33 [(.v 3), (.u (.conv .u64) (.v 1))] 1
 (.leaf [(.o .eq (.v 4) (.i 1))])))
 (.leaf [(.b false)])))
 (.leaf [(.b false)]))
 (.leaf [(.b false)]))
noncomputable def k_frac_Valid : Known Try.prog := known mixedOk [k_frac_size, k_frac_gcd] (by decide) [] plTypes plOk inFuncs insOk 6 ⟨27, [(.g [(.ck (.int .i64)), (.ck (.int .i64))])], (.c (.a (.ck .bool)))⟩ (fun args w => Try.call27 args w) tk_frac_Valid (by kernel_rfl)
theorem k_frac_Valid_f : k_frac_Valid.con.f = 27 := rfl
theorem k_frac_Valid_F (l : List Sc) : k_frac_Valid.F l = if l.length = 2 then tk_frac_Valid.den (gam (P := Try.prog) [k_frac_size, k_frac_gcd]) l [] else none := rfl
def tk_frac_signed : T (List Ex) :=
 (.ite (.o .beq (.v 0) (.v 3))
 (.call 40 [(.v 1), (.v 2), (.v 4), (.v 5)] 2
 (.leaf [(.v 0), (.v 6), (.v 7)]))
 (.call 41 [(.v 1), (.v 2), (.v 4), (.v 5)] 3
 (.leaf [(.u .not (.o .beq (.v 0) (.v 8))), (.v 6), (.v 7)])))
noncomputable def k_frac_signed : Known Try.prog := known mixedOk [k_frac_wide_plus, k_frac_wide_minus] (by decide) [] plTypes plOk inFuncs insOk 6 ⟨28, [(.a (.ck .bool)), (.g [(.ck (.int .u64)), (.ck (.int .u64))]), (.a (.ck .bool)), (.g [(.ck (.int .u64)), (.ck (.int .u64))])], (.t [(.a (.ck .bool)), (.g [(.ck (.int .u64)), (.ck (.int .u64))])])⟩ (fun args w => Try.call28 args w) tk_frac_signed (by kernel_rfl)
theorem k_frac_signed_f : k_frac_signed.con.f = 28 := rfl
theorem k_frac_signed_F (l : List Sc) : k_frac_signed.F l = if l.length = 6 then tk_frac_signed.den (gam (P := Try.prog) [k_frac_wide_plus, k_frac_wide_minus]) l [] else none := rfl
def tk_frac_times : T (List Ex) :=
 (.call 42 [(.v 0), (.v 1)] 2
 (.leaf [(.v 2), (.v 3)]))
noncomputable def k_frac_times : Known Try.prog := known mixedOk [k_bits_Mul64] (by decide) [] plTypes plOk inFuncs insOk 6 ⟨29, [(.a (.ck (.int .u64))), (.a (.ck (.int .u64)))], (.c (.g [(.ck (.int .u64)), (.ck (.int .u64))]))⟩ (fun args w => Try.call29 args w) tk_frac_times (by kernel_rfl)
theorem k_frac_times_f : k_frac_times.con.f = 29 := rfl
theorem k_frac_times_F (l : List Sc) : k_frac_times.F l = if l.length = 2 then tk_frac_times.den (gam (P := Try.prog) [k_bits_Mul64]) l [] else none := rfl
def tk_simulatorref02_Both : T (List Ex) :=
 (.ite (.o .beq (.v 0) (.v 3))
 (.call 46 [(.v 1), (.v 2), (.v 4), (.v 5)] 2
 (.leaf [(.v 0), (.v 6), (.v 7)]))
 (.call 47 [(.v 1), (.v 2), (.v 4), (.v 5)] 1
 (.ite (.v 6)
 (.call 48 [(.v 4), (.v 5), (.v 1), (.v 2)] 2
 (.leaf [(.v 3), (.v 7), (.v 8)]))
 (.call 48 [(.v 1), (.v 2), (.v 4), (.v 5)] 2
 (.leaf [(.v 0), (.v 7), (.v 8)])))))
noncomputable def k_simulatorref02_Both : Known Try.prog := known mixedOk [k_simulatorref02_Plus, k_simulatorref02_Less, k_simulatorref02_Minus] (by decide) [] plTypes plOk inFuncs insOk 6 ⟨38, [(.g [(.ck .bool), (.ck (.int .u64)), (.ck (.int .u64))]), (.g [(.ck .bool), (.ck (.int .u64)), (.ck (.int .u64))])], (.c (.g [(.ck .bool), (.ck (.int .u64)), (.ck (.int .u64))]))⟩ (fun args w => Try.call38 args w) tk_simulatorref02_Both (by kernel_rfl)
theorem k_simulatorref02_Both_f : k_simulatorref02_Both.con.f = 38 := rfl
theorem k_simulatorref02_Both_F (l : List Sc) : k_simulatorref02_Both.F l = if l.length = 6 then tk_simulatorref02_Both.den (gam (P := Try.prog) [k_simulatorref02_Plus, k_simulatorref02_Less, k_simulatorref02_Minus]) l [] else none := rfl
def tk_simulatorref02_Divide : T (List Ex) :=
 (.loop [(.i 127), (.i 0), (.i 0), (.i 0), (.i 0)]
 (.ite (.o .le (.i 0) (.v 4))
 (.call 46 [(.v 5), (.v 6), (.v 5), (.v 6)] 2
 (.call 46 [(.v 7), (.v 8), (.v 7), (.v 8)] 2
 (.call 52 [(.v 0), (.v 1), (.v 4)] 1
 (.call 46 [(.v 11), (.v 12), (.i 0), (.v 13)] 2
 (.call 47 [(.v 14), (.v 15), (.v 2), (.v 3)] 1
 (.ite (.u .not (.v 16))
 (.call 48 [(.v 14), (.v 15), (.v 2), (.v 3)] 2
 (.next 0 [(.o (.sub .i64) (.v 4) (.i 1)), (.v 9), (.o (.add .u64) (.v 10) (.i 1)), (.v 17), (.v 18)]))
 (.next 0 [(.o (.sub .i64) (.v 4) (.i 1)), (.v 9), (.v 10), (.v 14), (.v 15)])))))))
 (.leaf [(.v 5), (.v 6), (.v 7), (.v 8)])))
noncomputable def k_simulatorref02_Divide : Known Try.prog := known mixedOk [k_simulatorref02_Plus, k_simulatorref02_bit, k_simulatorref02_Less, k_simulatorref02_Minus] (by decide) [⟨4400003, [(8, 0)], [11, 12, 15, 16, 17, 18, 19, 20, 21, 22, 23, 24, 25, 26, 27, 28, 29, 30, 31, 32, 33, 34, 35, 36, 13, 14], [(4, (0, 0)), (4, (1, 0)), (5, (0, 0)), (5, (1, 0))], []⟩] plTypes plOk inFuncs insOk 6 ⟨44, [(.g [(.ck (.int .u64)), (.ck (.int .u64))]), (.g [(.ck (.int .u64)), (.ck (.int .u64))])], (.t [(.g [(.ck (.int .u64)), (.ck (.int .u64))]), (.g [(.ck (.int .u64)), (.ck (.int .u64))])])⟩ (fun args w => Try.call44 args w) tk_simulatorref02_Divide (by kernel_rfl)
theorem k_simulatorref02_Divide_f : k_simulatorref02_Divide.con.f = 44 := rfl
theorem k_simulatorref02_Divide_F (l : List Sc) : k_simulatorref02_Divide.F l = if l.length = 4 then tk_simulatorref02_Divide.den (gam (P := Try.prog) [k_simulatorref02_Plus, k_simulatorref02_bit, k_simulatorref02_Less, k_simulatorref02_Minus]) l [] else none := rfl
def tk_simulatorref02_Times : T (List Ex) :=
 (.call 53 [(.i 0), (.v 0), (.v 1)] 2
 (.leaf [(.v 2), (.v 3)]))
noncomputable def k_simulatorref02_Times : Known Try.prog := known mixedOk [k_simulatorref02_Scale] (by decide) [] plTypes plOk inFuncs insOk 6 ⟨49, [(.a (.ck (.int .u64))), (.a (.ck (.int .u64)))], (.c (.g [(.ck (.int .u64)), (.ck (.int .u64))]))⟩ (fun args w => Try.call49 args w) tk_simulatorref02_Times (by kernel_rfl)
theorem k_simulatorref02_Times_f : k_simulatorref02_Times.con.f = 49 := rfl
theorem k_simulatorref02_Times_F (l : List Sc) : k_simulatorref02_Times.F l = if l.length = 2 then tk_simulatorref02_Times.den (gam (P := Try.prog) [k_simulatorref02_Scale]) l [] else none := rfl
def tk_warmup_Score : T (List Ex) :=
 (.ite (.o .lt (.i 1000) (.u .len (.v 0)))
 (.leaf [(.i 0), (.i 0), (.b false)])
 (.ite (.o .lt (.v 1) (.i 0))
 (.leaf [(.i 0), (.i 0), (.b false)])
 (.ite (.o .le (.u .len (.v 0)) (.v 1))
 (.leaf [(.i 0), (.i 0), (.b false)])
 (.loop [(.i 0)]
 (.ite (.o .lt (.v 2) (.u .len (.v 0)))
 (.need (.o .le (.i 0) (.v 2)) (.need (.o .lt (.v 2) (.u .len (.v 0))) (.call 22 [(.o .idx (.v 0) (.v 2)), (.i 10000)] 1
 (.ite (.v 3)
 (.ite (.o .le (.i 0) (.v 2))
 (.leaf [(.i 0), (.i 0), (.b false)])
 (.need (.o .le (.i 0) (.v 1)) (.need (.o .le (.v 1) (.u .len (.v 0))) (.need (.o .le (.u .len (.v 0)) (.u .len (.v 0))) (.loop [(.i 0), (.i 0), (.i 0)]
 (.ite (.o .lt (.v 6) (.o (.sub .i64) (.u .len (.v 0)) (.v 1)))
 (.need (.o .le (.i 0) (.v 6)) (.need (.o .lt (.v 6) (.o (.sub .i64) (.u .len (.v 0)) (.v 1))) (.next 1 [(.o (.add .i64) (.v 4) (.o .idx (.v 0) (.o (.add .i64) (.v 1) (.v 6)))), (.o (.add .i64) (.v 5) (.o (.mul .i64) (.o .idx (.v 0) (.o (.add .i64) (.v 1) (.v 6))) (.o .idx (.v 0) (.o (.add .i64) (.v 1) (.v 6))))), (.o (.add .i64) (.v 6) (.i 1))])))
 (.call 23 [(.o (.sub .i64) (.o (.mul .i64) (.o (.sub .i64) (.u .len (.v 0)) (.v 1)) (.v 5)) (.o (.mul .i64) (.v 4) (.v 4))), (.o (.mul .i64) (.o (.mul .i64) (.o (.sub .i64) (.u .len (.v 0)) (.v 1)) (.o (.sub .i64) (.u .len (.v 0)) (.v 1))) (.o (.sub .i64) (.u .len (.v 0)) (.v 1)))] 3
 (.leaf [(.v 7), (.v 8), (.v 9)]))))))))
 (.next 0 [(.o (.add .i64) (.v 2) (.i 1))])))))
 (.need (.o .le (.i 0) (.v 1)) (.need (.o .le (.v 1) (.u .len (.v 0))) (.need (.o .le (.u .len (.v 0)) (.u .len (.v 0))) (.loop [(.i 0), (.i 0), (.i 0)]
 (.ite (.o .lt (.v 5) (.o (.sub .i64) (.u .len (.v 0)) (.v 1)))
 (.need (.o .le (.i 0) (.v 5)) (.need (.o .lt (.v 5) (.o (.sub .i64) (.u .len (.v 0)) (.v 1))) (.next 1 [(.o (.add .i64) (.v 3) (.o .idx (.v 0) (.o (.add .i64) (.v 1) (.v 5)))), (.o (.add .i64) (.v 4) (.o (.mul .i64) (.o .idx (.v 0) (.o (.add .i64) (.v 1) (.v 5))) (.o .idx (.v 0) (.o (.add .i64) (.v 1) (.v 5))))), (.o (.add .i64) (.v 5) (.i 1))])))
 (.call 23 [(.o (.sub .i64) (.o (.mul .i64) (.o (.sub .i64) (.u .len (.v 0)) (.v 1)) (.v 4)) (.o (.mul .i64) (.v 3) (.v 3))), (.o (.mul .i64) (.o (.mul .i64) (.o (.sub .i64) (.u .len (.v 0)) (.v 1)) (.o (.sub .i64) (.u .len (.v 0)) (.v 1))) (.o (.sub .i64) (.u .len (.v 0)) (.v 1)))] 3
 (.leaf [(.v 6), (.v 7), (.v 8)]))))))))))))
noncomputable def k_warmup_Score : Known Try.prog := known mixedOk [k_warmup_outside, k_frac_Of] (by decide) [⟨1000005, [(7, 0), (8, 0), (37, 0)], [38, 39, 40, 10, 41, 42, 43, 44, 45, 46, 47, 48, 49], [], []⟩, ⟨3200002, [(8, 0)], [9, 10, 5, 11, 12, 13, 14, 15, 16, 17, 4, 18], [], []⟩] plTypes plOk inFuncs insOk 6 ⟨10, [(.a (.row 3 [(.int .i64)] false)), (.a (.ck (.int .i64)))], (.t [(.g [(.ck (.int .i64)), (.ck (.int .i64))]), (.a (.ck .bool))])⟩ (fun args w => Try.call10 args w) tk_warmup_Score (by kernel_rfl)
theorem k_warmup_Score_f : k_warmup_Score.con.f = 10 := rfl
theorem k_warmup_Score_F (l : List Sc) : k_warmup_Score.F l = if l.length = 2 then tk_warmup_Score.den (gam (P := Try.prog) [k_warmup_outside, k_frac_Of]) l [] else none := rfl
def tk_frac_Cmp : T (List Ex) :=
 (.call 27 [(.v 0), (.v 1)] 1
 (.ite (.u .not (.v 4))
 (.call 27 [(.v 2), (.v 3)] 1
 (.ite (.u .not (.v 5))
 (.call 30 [(.i 0)] 1
 (.call 29 [(.v 6), (.i 1)] 2
 (.call 30 [(.i 0)] 1
 (.call 29 [(.v 9), (.i 1)] 2
 (.call 28 [(.b false), (.v 7), (.v 8), (.b true), (.v 10), (.v 11)] 3
 (.ite (.o .and (.o .eq (.v 13) (.i 0)) (.o .and (.o .eq (.v 14) (.i 0)) (.b true)))
 (.leaf [(.i 0)])
 (.ite (.v 12)
 (.leaf [(.i (-1))])
 (.leaf [(.i 1)]))))))))
 (.call 30 [(.i 0)] 1
 (.call 29 [(.v 6), (.u (.conv .u64) (.v 3))] 2
 (.call 30 [(.v 2)] 1
 (.call 29 [(.v 9), (.i 1)] 2
 (.call 28 [(.b false), (.v 7), (.v 8), (.o .le (.i 0) (.v 2)), (.v 10), (.v 11)] 3
 (.ite (.o .and (.o .eq (.v 13) (.i 0)) (.o .and (.o .eq (.v 14) (.i 0)) (.b true)))
 (.leaf [(.i 0)])
 (.ite (.v 12)
 (.leaf [(.i (-1))])
 (.leaf [(.i 1)]))))))))))
 (.call 27 [(.v 2), (.v 3)] 1
 (.ite (.u .not (.v 5))
 (.call 30 [(.v 0)] 1
 (.call 29 [(.v 6), (.i 1)] 2
 (.call 30 [(.i 0)] 1
 (.call 29 [(.v 9), (.u (.conv .u64) (.v 1))] 2
 (.call 28 [(.o .lt (.v 0) (.i 0)), (.v 7), (.v 8), (.b true), (.v 10), (.v 11)] 3
 (.ite (.o .and (.o .eq (.v 13) (.i 0)) (.o .and (.o .eq (.v 14) (.i 0)) (.b true)))
 (.leaf [(.i 0)])
 (.ite (.v 12)
 (.leaf [(.i (-1))])
 (.leaf [(.i 1)]))))))))
 (.call 30 [(.v 0)] 1
 (.call 29 [(.v 6), (.u (.conv .u64) (.v 3))] 2
 (.call 30 [(.v 2)] 1
 (.call 29 [(.v 9), (.u (.conv .u64) (.v 1))] 2
 (.call 28 [(.o .lt (.v 0) (.i 0)), (.v 7), (.v 8), (.o .le (.i 0) (.v 2)), (.v 10), (.v 11)] 3
 (.ite (.o .and (.o .eq (.v 13) (.i 0)) (.o .and (.o .eq (.v 14) (.i 0)) (.b true)))
 (.leaf [(.i 0)])
 (.ite (.v 12)
 (.leaf [(.i (-1))])
 (.leaf [(.i 1)]))))))))))))
noncomputable def k_frac_Cmp : Known Try.prog := known mixedOk [k_frac_Valid, k_frac_size, k_frac_times, k_frac_signed] (by decide) [] plTypes plOk inFuncs insOk 6 ⟨14, [(.g [(.ck (.int .i64)), (.ck (.int .i64))]), (.g [(.ck (.int .i64)), (.ck (.int .i64))])], (.c (.a (.ck (.int .i64))))⟩ (fun args w => Try.call14 args w) tk_frac_Cmp (by kernel_rfl)
theorem k_frac_Cmp_f : k_frac_Cmp.con.f = 14 := rfl
theorem k_frac_Cmp_F (l : List Sc) : k_frac_Cmp.F l = if l.length = 4 then tk_frac_Cmp.den (gam (P := Try.prog) [k_frac_Valid, k_frac_size, k_frac_times, k_frac_signed]) l [] else none := rfl
def tk_simulatorref02_Product : T (List Ex) :=
 (.call 36 [(.v 0)] 1
 (.call 36 [(.v 1)] 1
 (.call 49 [(.v 2), (.v 3)] 2
 (.leaf [(.u .not (.o .beq (.o .lt (.v 0) (.i 0)) (.o .lt (.v 1) (.i 0)))), (.v 4), (.v 5)]))))
noncomputable def k_simulatorref02_Product : Known Try.prog := known mixedOk [k_simulatorref02_Size, k_simulatorref02_Times] (by decide) [] plTypes plOk inFuncs insOk 6 ⟨39, [(.a (.ck (.int .i64))), (.a (.ck (.int .i64)))], (.c (.g [(.ck .bool), (.ck (.int .u64)), (.ck (.int .u64))]))⟩ (fun args w => Try.call39 args w) tk_simulatorref02_Product (by kernel_rfl)
theorem k_simulatorref02_Product_f : k_simulatorref02_Product.con.f = 39 := rfl
theorem k_simulatorref02_Product_F (l : List Sc) : k_simulatorref02_Product.F l = if l.length = 2 then tk_simulatorref02_Product.den (gam (P := Try.prog) [k_simulatorref02_Size, k_simulatorref02_Times]) l [] else none := rfl
def tk_simulatorref02_common : T (List Ex) :=
 (.loop [(.v 0), (.v 1), (.v 2), (.v 3)]
 (.ite (.u .not (.o .and (.o .eq (.v 6) (.i 0)) (.o .and (.o .eq (.v 7) (.i 0)) (.b true))))
 (.call 44 [(.v 4), (.v 5), (.v 6), (.v 7)] 4
 (.next 0 [(.v 6), (.v 7), (.v 10), (.v 11)]))
 (.leaf [(.v 4), (.v 5)])))
noncomputable def k_simulatorref02_common : Known Try.prog := known mixedOk [k_simulatorref02_Divide] (by decide) [⟨4300001, [], [7, 8, 9, 11, 12, 13, 10, 14, 15, 5, 6, 16, 17], [(0, (0, 0)), (0, (1, 0)), (1, (0, 0)), (1, (1, 0))], []⟩] plTypes plOk inFuncs insOk 6 ⟨43, [(.g [(.ck (.int .u64)), (.ck (.int .u64))]), (.g [(.ck (.int .u64)), (.ck (.int .u64))])], (.c (.g [(.ck (.int .u64)), (.ck (.int .u64))]))⟩ (fun args w => Try.call43 args w) tk_simulatorref02_common (by kernel_rfl)
theorem k_simulatorref02_common_f : k_simulatorref02_common.con.f = 43 := rfl
theorem k_simulatorref02_common_F (l : List Sc) : k_simulatorref02_common.F l = if l.length = 4 then tk_simulatorref02_common.den (gam (P := Try.prog) [k_simulatorref02_Divide]) l [] else none := rfl
def tk_simulatorref02_Valid : T (List Ex) :=
 (.ite (.o .lt (.v 1) (.i 1))
 (.leaf [(.b false)])
 (.ite (.o .lt (.i 1000000000000000) (.v 1))
 (.leaf [(.b false)])
 (.ite (.o .lt (.v 0) (.i (-4611686018427387904)))
 (.leaf [(.b false)])
 (.ite (.o .lt (.i 4611686018427387904) (.v 0))
 (.leaf [(.b false)])
 (.call 36 [(.v 0)] 1
 (.call 36 [(.v 1)] 1
 (.call 43 [(.i 0), (.v 2), (.i 0), (.v 3)] 2
 (.leaf [(.o .and (.o .eq (.v 4) (.i 0)) (.o .and (.o .eq (.v 5) (.i 1)) (.b true)))]))))))))
noncomputable def k_simulatorref02_Valid : Known Try.prog := known mixedOk [k_simulatorref02_Size, k_simulatorref02_common] (by decide) [] plTypes plOk inFuncs insOk 6 ⟨45, [(.g [(.ck (.int .i64)), (.ck (.int .i64))])], (.c (.a (.ck .bool)))⟩ (fun args w => Try.call45 args w) tk_simulatorref02_Valid (by kernel_rfl)
theorem k_simulatorref02_Valid_f : k_simulatorref02_Valid.con.f = 45 := rfl
theorem k_simulatorref02_Valid_F (l : List Sc) : k_simulatorref02_Valid.F l = if l.length = 2 then tk_simulatorref02_Valid.den (gam (P := Try.prog) [k_simulatorref02_Size, k_simulatorref02_common]) l [] else none := rfl
def tk_warmup_Detect : T (List Ex) :=
 (.call 10 [(.v 0), (.i 0)] 3
 (.ite (.u .not (.v 3))
 (.leaf [(.i 0), (.b false)])
 (.loop [(.i 0), (.i 1), (.v 1), (.v 2)]
 (.ite (.o .le (.v 5) (.o (.quo .i64) (.u .len (.v 0)) (.i 2)))
 (.call 10 [(.v 0), (.v 5)] 3
 (.ite (.v 10)
 (.call 14 [(.v 8), (.v 9), (.v 6), (.v 7)] 1
 (.ite (.o .lt (.v 11) (.i 0))
 (.next 0 [(.v 5), (.o (.add .i64) (.v 5) (.i 1)), (.v 8), (.v 9)])
 (.next 0 [(.v 4), (.o (.add .i64) (.v 5) (.i 1)), (.v 6), (.v 7)])))
 (.next 0 [(.v 4), (.o (.add .i64) (.v 5) (.i 1)), (.v 6), (.v 7)])))
 (.leaf [(.v 4), (.b true)])))))
noncomputable def k_warmup_Detect : Known Try.prog := known mixedOk [k_warmup_Score, k_frac_Cmp] (by decide) [⟨1200006, [(6, 0), (7, 0)], [17, 18, 19, 20, 21, 25, 26, 27, 24, 28, 29, 8, 9, 30, 31, 32, 33, 34, 35, 36, 37, 38, 22, 23], [(0, (0, 0)), (0, (1, 0))], []⟩] plTypes plOk inFuncs insOk 6 ⟨12, [(.a (.row 3 [(.int .i64)] false))], (.t [(.a (.ck (.int .i64))), (.a (.ck .bool))])⟩ (fun args w => Try.call12 args w) tk_warmup_Detect (by kernel_rfl)
theorem k_warmup_Detect_f : k_warmup_Detect.con.f = 12 := rfl
theorem k_warmup_Detect_F (l : List Sc) : k_warmup_Detect.F l = if l.length = 1 then tk_warmup_Detect.den (gam (P := Try.prog) [k_warmup_Score, k_frac_Cmp]) l [] else none := rfl
def tk_simulatorref02_Made : T (List Ex) :=
 (.call 43 [(.v 1), (.v 2), (.v 3), (.v 4)] 2
 (.call 44 [(.v 1), (.v 2), (.v 5), (.v 6)] 4
 (.call 44 [(.v 3), (.v 4), (.v 5), (.v 6)] 4
 (.ite (.o .ne (.v 7) (.i 0))
 (.leaf [(.i 0), (.i 0), (.b false)])
 (.ite (.o .lt (.i 4611686018427387904) (.v 8))
 (.leaf [(.i 0), (.i 0), (.b false)])
 (.ite (.o .ne (.v 11) (.i 0))
 (.leaf [(.i 0), (.i 0), (.b false)])
 (.ite (.o .lt (.i 1000000000000000) (.v 12))
 (.leaf [(.i 0), (.i 0), (.b false)])
 (.ite (.v 0)
 (.leaf [(.o (.sub .i64) (.i 0) (.u (.conv .i64) (.v 8))), (.u (.conv .i64) (.v 12)), (.b true)])
 (.leaf [(.u (.conv .i64) (.v 8)), (.u (.conv .i64) (.v 12)), (.b true)])))))))))
noncomputable def k_simulatorref02_Made : Known Try.prog := known mixedOk [k_simulatorref02_common, k_simulatorref02_Divide] (by decide) [] plTypes plOk inFuncs insOk 6 ⟨35, [(.g [(.ck .bool), (.ck (.int .u64)), (.ck (.int .u64))]), (.g [(.ck (.int .u64)), (.ck (.int .u64))])], (.t [(.g [(.ck (.int .i64)), (.ck (.int .i64))]), (.a (.ck .bool))])⟩ (fun args w => Try.call35 args w) tk_simulatorref02_Made (by kernel_rfl)
theorem k_simulatorref02_Made_f : k_simulatorref02_Made.con.f = 35 := rfl
theorem k_simulatorref02_Made_F (l : List Sc) : k_simulatorref02_Made.F l = if l.length = 5 then tk_simulatorref02_Made.den (gam (P := Try.prog) [k_simulatorref02_common, k_simulatorref02_Divide]) l [] else none := rfl
def tk_simulatorref02_usual : T (List Ex) :=
 (.call 45 [(.v 0), (.v 1)] 1
 (.ite (.v 2)
 (.leaf [(.v 0), (.v 1)])
 (.leaf [(.i 0), (.i 1)])))
noncomputable def k_simulatorref02_usual : Known Try.prog := known mixedOk [k_simulatorref02_Valid] (by decide) [] plTypes plOk inFuncs insOk 6 ⟨37, [(.g [(.ck (.int .i64)), (.ck (.int .i64))])], (.c (.g [(.ck (.int .i64)), (.ck (.int .i64))]))⟩ (fun args w => Try.call37 args w) tk_simulatorref02_usual (by kernel_rfl)
theorem k_simulatorref02_usual_f : k_simulatorref02_usual.con.f = 37 := rfl
theorem k_simulatorref02_usual_F (l : List Sc) : k_simulatorref02_usual.F l = if l.length = 2 then tk_simulatorref02_usual.den (gam (P := Try.prog) [k_simulatorref02_Valid]) l [] else none := rfl
def tk_simulatorlaw47_awake : T (List Ex) :=
 (.call 10 [(.o .cons (.i 9) (.o .cons (.i 1) (.o .cons (.i 3) .nil))), (.i 1)] 3
 (.call 10 [(.o .cons (.i 9) (.o .cons (.i 1) (.o .cons (.i 3) .nil))), (.i 2)] 3
 (.call 10 [(.o .cons (.i 9) (.o .cons (.i 1) (.o .cons (.i 3) .nil))), (.i 3)] 3
 (.call 12 [(.o .cons (.i 9) (.o .cons (.i 1) (.o .cons (.i 1) (.o .cons (.i 1) .nil))))] 2
 (.call 12 [(.o .cons (.i 7) (.o .cons (.i 3) (.o .cons (.i 3) .nil)))] 2
 (.call 12 [.nil] 2
 (.call 18 [(.o .cons (.i 1) (.o .cons (.i 2) (.o .cons (.i 3) (.o .cons (.i 4) (.o .cons (.i 5) .nil))))), (.i 2)] 2
 (.call 18 [.nil, (.i 101)] 2
 (.ite (.u .not (.o .and (.o .eq (.v 0) (.i 1)) (.o .and (.o .eq (.v 1) (.i 2)) (.b true))))
 (.leaf [(.b false)])
 (.ite (.u .not (.v 2))
 (.leaf [(.b false)])
 (.ite (.u .not (.o .and (.o .eq (.v 3) (.i 0)) (.o .and (.o .eq (.v 4) (.i 1)) (.b true))))
 (.leaf [(.b false)])
 (.ite (.u .not (.v 5))
 (.leaf [(.b false)])
 (.ite (.v 8)
 (.leaf [(.b false)])
 (.ite (.o .ne (.v 9) (.i 1))
 (.leaf [(.b false)])
 (.ite (.u .not (.v 10))
 (.leaf [(.b false)])
 (.ite (.o .ne (.v 11) (.i 1))
 (.leaf [(.b false)])
 (.ite (.u .not (.v 12))
 (.leaf [(.b false)])
 (.ite (.v 14)
 (.leaf [(.b false)])
 (.call 16 [(.v 15), (.o .cons (.i 3) (.o .cons (.i 7) .nil))] 1
 (.ite (.v 19)
 (.ite (.o .eq (.v 16) (.i 0))
 (.ite (.o .eq (.v 18) (.i 2))
 (.call 15 [(.o .cons (.i 1) (.o .cons (.i 2) (.o .cons (.i 3) .nil))), (.i 2)] 1
 (.call 16 [(.v 20), (.o .cons (.i 3) .nil)] 1
 (.ite (.v 21)
 (.call 15 [(.o .cons (.i 1) .nil), (.i 1)] 1
 (.ite (.o .eq (.u .len (.v 22)) (.i 0))
 (.call 15 [(.o .cons (.i 1) .nil), (.i (-4))] 1
 (.leaf [(.o .eq (.u .len (.v 23)) (.i 1))]))
 (.leaf [(.b false)])))
 (.leaf [(.b false)]))))
 (.leaf [(.b false)]))
 (.leaf [(.b false)]))
 (.leaf [(.b false)])))))))))))))))))))))
noncomputable def k_simulatorlaw47_awake : Known Try.prog := known mixedOk [k_warmup_Score, k_warmup_Detect, k_warmup_Batched, k_simulatorref47_SameInts, k_warmup_Cut] (by decide) [] plTypes plOk inFuncs insOk 6 ⟨9, [], (.c (.a (.ck .bool)))⟩ (fun args w => Try.call9 args w) tk_simulatorlaw47_awake (by kernel_rfl)
theorem k_simulatorlaw47_awake_f : k_simulatorlaw47_awake.con.f = 9 := rfl
theorem k_simulatorlaw47_awake_F (l : List Sc) : k_simulatorlaw47_awake.F l = if l.length = 0 then tk_simulatorlaw47_awake.den (gam (P := Try.prog) [k_warmup_Score, k_warmup_Detect, k_warmup_Batched, k_simulatorref47_SameInts, k_warmup_Cut]) l [] else none := rfl
def tk_simulatorref02_Of : T (List Ex) :=
 (.ite (.o .eq (.v 1) (.i 0))
 (.leaf [(.i 0), (.i 0), (.b false)])
 (.call 36 [(.v 0)] 1
 (.call 36 [(.v 1)] 1
 (.call 35 [(.u .not (.o .beq (.o .lt (.v 0) (.i 0)) (.o .lt (.v 1) (.i 0)))), (.i 0), (.v 2), (.i 0), (.v 3)] 3
 (.leaf [(.v 4), (.v 5), (.v 6)])))))
noncomputable def k_simulatorref02_Of : Known Try.prog := known mixedOk [k_simulatorref02_Size, k_simulatorref02_Made] (by decide) [] plTypes plOk inFuncs insOk 6 ⟨25, [(.a (.ck (.int .i64))), (.a (.ck (.int .i64)))], (.t [(.g [(.ck (.int .i64)), (.ck (.int .i64))]), (.a (.ck .bool))])⟩ (fun args w => Try.call25 args w) tk_simulatorref02_Of (by kernel_rfl)
theorem k_simulatorref02_Of_f : k_simulatorref02_Of.con.f = 25 := rfl
theorem k_simulatorref02_Of_F (l : List Sc) : k_simulatorref02_Of.F l = if l.length = 2 then tk_simulatorref02_Of.den (gam (P := Try.prog) [k_simulatorref02_Size, k_simulatorref02_Made]) l [] else none := rfl
def tk_simulatorref02_Cmp : T (List Ex) :=
 (.call 37 [(.v 0), (.v 1)] 2
 (.call 37 [(.v 2), (.v 3)] 2
 (.call 39 [(.v 4), (.v 7)] 3
 (.call 39 [(.o (.sub .i64) (.i 0) (.v 6)), (.v 5)] 3
 (.call 38 [(.v 8), (.v 9), (.v 10), (.v 11), (.v 12), (.v 13)] 3
 (.ite (.o .and (.o .eq (.v 15) (.i 0)) (.o .and (.o .eq (.v 16) (.i 0)) (.b true)))
 (.leaf [(.i 0)])
 (.ite (.v 14)
 (.leaf [(.i (-1))])
 (.leaf [(.i 1)]))))))))
noncomputable def k_simulatorref02_Cmp : Known Try.prog := known mixedOk [k_simulatorref02_usual, k_simulatorref02_Product, k_simulatorref02_Both] (by decide) [] plTypes plOk inFuncs insOk 6 ⟨26, [(.g [(.ck (.int .i64)), (.ck (.int .i64))]), (.g [(.ck (.int .i64)), (.ck (.int .i64))])], (.c (.a (.ck (.int .i64))))⟩ (fun args w => Try.call26 args w) tk_simulatorref02_Cmp (by kernel_rfl)
theorem k_simulatorref02_Cmp_f : k_simulatorref02_Cmp.con.f = 26 := rfl
theorem k_simulatorref02_Cmp_F (l : List Sc) : k_simulatorref02_Cmp.F l = if l.length = 4 then tk_simulatorref02_Cmp.den (gam (P := Try.prog) [k_simulatorref02_usual, k_simulatorref02_Product, k_simulatorref02_Both]) l [] else none := rfl
def tk_simulatorlaw47_WarmupShifts : T (List Ex) :=
 (.ite (.o .lt (.i 200) (.u .len (.v 0)))
 (.call 9 [] 1
 (.leaf [(.v 3)]))
 (.ite (.o .lt (.v 1) (.i 0))
 (.call 9 [] 1
 (.leaf [(.v 3)]))
 (.ite (.o .le (.u .len (.v 0)) (.v 1))
 (.call 9 [] 1
 (.leaf [(.v 3)]))
 (.loop [.nil, .nil, (.b true), (.i 0)]
 (.ite (.o .lt (.v 6) (.u .len (.v 0)))
 (.need (.o .le (.i 0) (.v 6)) (.need (.o .lt (.v 6) (.u .len (.v 0))) (.ite (.o .lt (.o .idx (.v 0) (.v 6)) (.i (-5000)))
 (.call 9 [] 1
 (.leaf [(.v 7)]))
 (.need (.o .le (.i 0) (.v 6)) (.need (.o .lt (.v 6) (.u .len (.v 0))) (.ite (.o .lt (.i 5000) (.o .idx (.v 0) (.v 6)))
 (.call 9 [] 1
 (.leaf [(.v 7)]))
 (.need (.o .le (.i 0) (.v 6)) (.need (.o .lt (.v 6) (.u .len (.v 0))) (.need (.o .le (.u .len (.o .snoc (.v 3) (.o (.add .i64) (.o .idx (.v 0) (.v 6)) (.o (.rem .i64) (.u (.conv .i64) (.v 2)) (.i 5001))))) (.i 17592186044416)) (.need (.o .le (.i 0) (.v 6)) (.need (.o .lt (.v 6) (.u .len (.v 0))) (.need (.o .le (.u .len (.o .snoc (.v 4) (.o (.sub .i64) (.i 0) (.o .idx (.v 0) (.v 6))))) (.i 17592186044416)) (.ite (.v 5)
 (.ite (.o .lt (.v 6) (.v 1))
 (.next 0 [(.o .snoc (.v 3) (.o (.add .i64) (.o .idx (.v 0) (.v 6)) (.o (.rem .i64) (.u (.conv .i64) (.v 2)) (.i 5001)))), (.o .snoc (.v 4) (.o (.sub .i64) (.i 0) (.o .idx (.v 0) (.v 6)))), (.b true), (.o (.add .i64) (.v 6) (.i 1))])
 (.need (.o .le (.i 0) (.v 6)) (.need (.o .lt (.v 6) (.u .len (.v 0))) (.need (.o .le (.i 0) (.v 1)) (.need (.o .lt (.v 1) (.u .len (.v 0))) (.next 0 [(.o .snoc (.v 3) (.o (.add .i64) (.o .idx (.v 0) (.v 6)) (.o (.rem .i64) (.u (.conv .i64) (.v 2)) (.i 5001)))), (.o .snoc (.v 4) (.o (.sub .i64) (.i 0) (.o .idx (.v 0) (.v 6)))), (.o .eq (.o .idx (.v 0) (.v 6)) (.o .idx (.v 0) (.v 1))), (.o (.add .i64) (.v 6) (.i 1))]))))))
 (.next 0 [(.o .snoc (.v 3) (.o (.add .i64) (.o .idx (.v 0) (.v 6)) (.o (.rem .i64) (.u (.conv .i64) (.v 2)) (.i 5001)))), (.o .snoc (.v 4) (.o (.sub .i64) (.i 0) (.o .idx (.v 0) (.v 6)))), (.b false), (.o (.add .i64) (.v 6) (.i 1))]))))))))))))))
 (.need (.o .le (.i 0) (.v 1)) (.need (.o .le (.v 1) (.u .len (.v 0))) (.need (.o .le (.u .len (.t .lsub (.v 0) (.i 0) (.o (.add .i64) (.i 0) (.o (.sub .i64) (.v 1) (.i 0))))) (.i 17592186044416)) (.loop [(.t .lsub (.v 0) (.i 0) (.o (.add .i64) (.i 0) (.o (.sub .i64) (.v 1) (.i 0)))), (.o (.sub .i64) (.u .len (.v 0)) (.i 1))]
 (.ite (.o .le (.v 1) (.v 8))
 (.need (.o .le (.i 0) (.v 8)) (.need (.o .lt (.v 8) (.u .len (.v 0))) (.need (.o .le (.u .len (.o .snoc (.v 7) (.o .idx (.v 0) (.v 8)))) (.i 17592186044416)) (.next 1 [(.o .snoc (.v 7) (.o .idx (.v 0) (.v 8))), (.o (.sub .i64) (.v 8) (.i 1))]))))
 (.call 10 [(.v 0), (.v 1)] 3
 (.call 10 [(.v 3), (.v 1)] 3
 (.call 10 [(.v 4), (.v 1)] 3
 (.call 10 [(.v 7), (.v 1)] 3
 (.ite (.v 11)
 (.ite (.v 14)
 (.ite (.v 17)
 (.ite (.v 20)
 (.ite (.o .and (.o .eq (.v 9) (.v 12)) (.o .and (.o .eq (.v 10) (.v 13)) (.b true)))
 (.ite (.o .and (.o .eq (.v 9) (.v 15)) (.o .and (.o .eq (.v 10) (.v 16)) (.b true)))
 (.ite (.o .and (.o .eq (.v 9) (.v 18)) (.o .and (.o .eq (.v 10) (.v 19)) (.b true)))
 (.ite (.o .beq (.o .eq (.v 9) (.i 0)) (.v 5))
 (.ite (.o .le (.i 0) (.v 9))
 (.call 9 [] 1
 (.leaf [(.v 21)]))
 (.leaf [(.b false)]))
 (.leaf [(.b false)]))
 (.leaf [(.b false)]))
 (.leaf [(.b false)]))
 (.leaf [(.b false)]))
 (.leaf [(.b false)]))
 (.leaf [(.b false)]))
 (.leaf [(.b false)]))
 (.leaf [(.b false)]))))))))))))))))
noncomputable def k_simulatorlaw47_WarmupShifts : Known Try.prog := known mixedOk [k_simulatorlaw47_awake, k_warmup_Score] (by decide) [⟨400016, [(12, 3), (13, 0)], [100, 101, 102, 105, 106, 107, 108, 109, 110, 111, 103, 104], [], []⟩, ⟨400007, [(8, 3), (9, 3), (10, 0), (11, 0)], [39, 40, 41, 42, 45, 46, 47, 48, 49, 50, 51, 52, 53, 54, 55, 56, 57, 6, 58, 59, 60, 61, 62, 63, 64, 65, 66, 67, 68, 69, 70, 71, 72, 73, 74, 75, 76, 77, 78, 79, 80, 81, 82, 83, 84, 85, 86, 87, 88, 89, 90, 91, 43, 44], [], []⟩] plTypes plOk inFuncs insOk 6 ⟨4, [(.a (.row 3 [(.int .i64)] false)), (.a (.ck (.int .i64))), (.a (.ck (.int .i16)))], (.c (.a (.ck .bool)))⟩ (fun args w => Try.call4 args w) tk_simulatorlaw47_WarmupShifts (by kernel_rfl)
theorem k_simulatorlaw47_WarmupShifts_f : k_simulatorlaw47_WarmupShifts.con.f = 4 := rfl
theorem k_simulatorlaw47_WarmupShifts_F (l : List Sc) : k_simulatorlaw47_WarmupShifts.F l = if l.length = 3 then tk_simulatorlaw47_WarmupShifts.den (gam (P := Try.prog) [k_simulatorlaw47_awake, k_warmup_Score]) l [] else none := rfl
def tk_simulatorlaw47_WarmupLeast : T (List Ex) :=
 (.ite (.o .lt (.i 150) (.u .len (.v 0)))
 (.call 9 [] 1
 (.leaf [(.v 1)]))
 (.call 12 [(.v 0)] 2
 (.call 10 [(.v 0), (.v 1)] 3
 (.call 10 [(.v 0), (.i 0)] 3
 (.ite (.u .not (.v 2))
 (.ite (.u .not (.v 8))
 (.call 9 [] 1
 (.leaf [(.v 9)]))
 (.leaf [(.b false)]))
 (.ite (.u .not (.v 5))
 (.leaf [(.b false)])
 (.ite (.o .lt (.v 1) (.i 0))
 (.leaf [(.b false)])
 (.ite (.o .lt (.o (.quo .i64) (.u .len (.v 0)) (.i 2)) (.v 1))
 (.leaf [(.b false)])
 (.loop [(.i 0)]
 (.ite (.o .le (.v 9) (.o (.quo .i64) (.u .len (.v 0)) (.i 2)))
 (.call 10 [(.v 0), (.v 9)] 3
 (.ite (.v 12)
 (.call 14 [(.v 10), (.v 11), (.v 3), (.v 4)] 1
 (.ite (.o .lt (.v 13) (.i 0))
 (.leaf [(.b false)])
 (.ite (.o .lt (.v 9) (.v 1))
 (.call 14 [(.v 10), (.v 11), (.v 3), (.v 4)] 1
 (.ite (.o .eq (.v 14) (.i 0))
 (.leaf [(.b false)])
 (.next 0 [(.o (.add .i64) (.v 9) (.i 1))])))
 (.next 0 [(.o (.add .i64) (.v 9) (.i 1))]))))
 (.next 0 [(.o (.add .i64) (.v 9) (.i 1))])))
 (.call 9 [] 1
 (.leaf [(.v 10)]))))))))))))
noncomputable def k_simulatorlaw47_WarmupLeast : Known Try.prog := known mixedOk [k_simulatorlaw47_awake, k_warmup_Detect, k_warmup_Score, k_frac_Cmp] (by decide) [⟨600011, [(9, 0)], [52, 53, 54, 55, 56, 60, 61, 62, 59, 63, 64, 10, 11, 65, 66, 67, 68, 69, 70, 71, 72, 73, 74, 75, 76, 77, 78, 79, 80, 81, 82, 2, 57, 58], [], []⟩] plTypes plOk inFuncs insOk 6 ⟨6, [(.a (.row 3 [(.int .i64)] false))], (.c (.a (.ck .bool)))⟩ (fun args w => Try.call6 args w) tk_simulatorlaw47_WarmupLeast (by kernel_rfl)
theorem k_simulatorlaw47_WarmupLeast_f : k_simulatorlaw47_WarmupLeast.con.f = 6 := rfl
theorem k_simulatorlaw47_WarmupLeast_F (l : List Sc) : k_simulatorlaw47_WarmupLeast.F l = if l.length = 1 then tk_simulatorlaw47_WarmupLeast.den (gam (P := Try.prog) [k_simulatorlaw47_awake, k_warmup_Detect, k_warmup_Score, k_frac_Cmp]) l [] else none := rfl
def tk_simulatorlaw47_WarmupCuts : T (List Ex) :=
 (.ite (.o .lt (.i 300) (.u .len (.v 0)))
 (.call 9 [] 1
 (.leaf [(.v 2)]))
 (.call 15 [(.v 0), (.v 1)] 1
 (.call 10 [(.v 0), (.v 1)] 3
 (.call 10 [(.v 2), (.i 0)] 3
 (.call 17 [(.v 0), (.v 1)] 1
 (.call 16 [(.v 2), (.v 9)] 1
 (.ite (.v 10)
 (.ite (.u .not (.v 5))
 (.call 9 [] 1
 (.leaf [(.v 11)]))
 (.ite (.v 8)
 (.ite (.o .and (.o .eq (.v 3) (.v 6)) (.o .and (.o .eq (.v 4) (.v 7)) (.b true)))
 (.call 9 [] 1
 (.leaf [(.v 11)]))
 (.leaf [(.b false)]))
 (.leaf [(.b false)])))
 (.leaf [(.b false)]))))))))
noncomputable def k_simulatorlaw47_WarmupCuts : Known Try.prog := known mixedOk [k_simulatorlaw47_awake, k_warmup_Cut, k_warmup_Score, k_simulatorref47_Cut, k_simulatorref47_SameInts] (by decide) [] plTypes plOk inFuncs insOk 6 ⟨7, [(.a (.row 3 [(.int .i64)] false)), (.a (.ck (.int .i64)))], (.c (.a (.ck .bool)))⟩ (fun args w => Try.call7 args w) tk_simulatorlaw47_WarmupCuts (by kernel_rfl)
theorem k_simulatorlaw47_WarmupCuts_f : k_simulatorlaw47_WarmupCuts.con.f = 7 := rfl
theorem k_simulatorlaw47_WarmupCuts_F (l : List Sc) : k_simulatorlaw47_WarmupCuts.F l = if l.length = 2 then tk_simulatorlaw47_WarmupCuts.den (gam (P := Try.prog) [k_simulatorlaw47_awake, k_warmup_Cut, k_warmup_Score, k_simulatorref47_Cut, k_simulatorref47_SameInts]) l [] else none := rfl
def tk_simulatorlaw47_WarmupBatches : T (List Ex) :=
 (.ite (.o .lt (.i 300) (.u .len (.v 0)))
 (.call 9 [] 1
 (.leaf [(.v 3)]))
 (.call 18 [(.v 0), (.v 1)] 2
 (.call 19 [(.v 0), (.v 1)] 2
 (.ite (.o .ne (.v 4) (.v 6))
 (.leaf [(.b false)])
 (.call 16 [(.v 3), (.v 5)] 1
 (.ite (.u .not (.v 7))
 (.leaf [(.b false)])
 (.ite (.o .ne (.v 4) (.i 0))
 (.call 9 [] 1
 (.leaf [(.v 8)]))
 (.ite (.o .lt (.i 100) (.o (.mul .i64) (.v 1) (.o (.add .i64) (.o (.rem .i64) (.u (.conv .i64) (.v 2)) (.i 9)) (.i 1))))
 (.call 9 [] 1
 (.leaf [(.v 8)]))
 (.call 18 [(.v 3), (.o (.add .i64) (.o (.rem .i64) (.u (.conv .i64) (.v 2)) (.i 9)) (.i 1))] 2
 (.call 18 [(.v 0), (.o (.mul .i64) (.v 1) (.o (.add .i64) (.o (.rem .i64) (.u (.conv .i64) (.v 2)) (.i 9)) (.i 1)))] 2
 (.ite (.o .ne (.v 9) (.i 0))
 (.ite (.o .eq (.v 11) (.i 0))
 (.call 9 [] 1
 (.leaf [(.v 12)]))
 (.leaf [(.b false)]))
 (.ite (.o .eq (.v 11) (.i 0))
 (.call 16 [(.v 8), (.v 10)] 1
 (.ite (.v 12)
 (.ite (.o .eq (.v 11) (.i 0))
 (.call 9 [] 1
 (.leaf [(.v 13)]))
 (.leaf [(.b false)]))
 (.leaf [(.b false)])))
 (.leaf [(.b false)])))))))))))))
noncomputable def k_simulatorlaw47_WarmupBatches : Known Try.prog := known mixedOk [k_simulatorlaw47_awake, k_warmup_Batched, k_simulatorref47_Batched, k_simulatorref47_SameInts] (by decide) [] plTypes plOk inFuncs insOk 6 ⟨8, [(.a (.row 3 [(.int .i64)] false)), (.a (.ck (.int .i64))), (.a (.ck (.int .u8)))], (.c (.a (.ck .bool)))⟩ (fun args w => Try.call8 args w) tk_simulatorlaw47_WarmupBatches (by kernel_rfl)
theorem k_simulatorlaw47_WarmupBatches_f : k_simulatorlaw47_WarmupBatches.con.f = 8 := rfl
theorem k_simulatorlaw47_WarmupBatches_F (l : List Sc) : k_simulatorlaw47_WarmupBatches.F l = if l.length = 3 then tk_simulatorlaw47_WarmupBatches.den (gam (P := Try.prog) [k_simulatorlaw47_awake, k_warmup_Batched, k_simulatorref47_Batched, k_simulatorref47_SameInts]) l [] else none := rfl
def tk_simulatorref47_Score : T (List Ex) :=
 (.call 24 [(.v 0)] 1
 (.ite (.u .not (.v 2))
 (.leaf [(.i 0), (.i 0), (.b false)])
 (.ite (.o .lt (.v 1) (.i 0))
 (.leaf [(.i 0), (.i 0), (.b false)])
 (.ite (.o .le (.u .len (.v 0)) (.v 1))
 (.leaf [(.i 0), (.i 0), (.b false)])
 (.loop [(.i 0), (.i 0), (.v 1)]
 (.ite (.o .lt (.v 5) (.u .len (.v 0)))
 (.need (.o .le (.i 0) (.v 5)) (.need (.o .lt (.v 5) (.u .len (.v 0))) (.need (.o .le (.i 0) (.v 5)) (.need (.o .lt (.v 5) (.u .len (.v 0))) (.need (.o .le (.i 0) (.v 5)) (.need (.o .lt (.v 5) (.u .len (.v 0))) (.next 0 [(.o (.add .i64) (.v 3) (.o .idx (.v 0) (.v 5))), (.o (.add .i64) (.v 4) (.o (.mul .i64) (.o .idx (.v 0) (.v 5)) (.o .idx (.v 0) (.v 5)))), (.o (.add .i64) (.v 5) (.i 1))])))))))
 (.call 25 [(.o (.sub .i64) (.o (.mul .i64) (.o (.sub .i64) (.u .len (.v 0)) (.v 1)) (.v 4)) (.o (.mul .i64) (.v 3) (.v 3))), (.o (.mul .i64) (.o (.mul .i64) (.o (.sub .i64) (.u .len (.v 0)) (.v 1)) (.o (.sub .i64) (.u .len (.v 0)) (.v 1))) (.o (.sub .i64) (.u .len (.v 0)) (.v 1)))] 3
 (.leaf [(.v 6), (.v 7), (.v 8)]))))))))
noncomputable def k_simulatorref47_Score : Known Try.prog := known mixedOk [k_simulatorref47_valid, k_simulatorref02_Of] (by decide) [⟨1100006, [(7, 0), (8, 0), (9, 0)], [29, 30, 31, 32, 35, 36, 37, 38, 39, 40, 41, 42, 43, 44, 45, 46, 47, 48, 49, 50, 51, 33, 34], [], []⟩] plTypes plOk inFuncs insOk 6 ⟨11, [(.a (.row 3 [(.int .i64)] false)), (.a (.ck (.int .i64)))], (.t [(.g [(.ck (.int .i64)), (.ck (.int .i64))]), (.a (.ck .bool))])⟩ (fun args w => Try.call11 args w) tk_simulatorref47_Score (by kernel_rfl)
theorem k_simulatorref47_Score_f : k_simulatorref47_Score.con.f = 11 := rfl
theorem k_simulatorref47_Score_F (l : List Sc) : k_simulatorref47_Score.F l = if l.length = 2 then tk_simulatorref47_Score.den (gam (P := Try.prog) [k_simulatorref47_valid, k_simulatorref02_Of]) l [] else none := rfl
def tk_simulatorref47_Detect : T (List Ex) :=
 (.call 11 [(.v 0), (.i 0)] 3
 (.ite (.u .not (.v 3))
 (.leaf [(.i 0), (.b false)])
 (.loop [(.i 0), (.i 1), (.v 1), (.v 2)]
 (.ite (.o .le (.v 5) (.o (.quo .i64) (.u .len (.v 0)) (.i 2)))
 (.call 11 [(.v 0), (.v 5)] 3
 (.ite (.v 10)
 (.call 26 [(.v 8), (.v 9), (.v 6), (.v 7)] 1
 (.ite (.o .lt (.v 11) (.i 0))
 (.next 0 [(.v 5), (.o (.add .i64) (.v 5) (.i 1)), (.v 8), (.v 9)])
 (.next 0 [(.v 4), (.o (.add .i64) (.v 5) (.i 1)), (.v 6), (.v 7)])))
 (.next 0 [(.v 4), (.o (.add .i64) (.v 5) (.i 1)), (.v 6), (.v 7)])))
 (.leaf [(.v 4), (.b true)])))))
noncomputable def k_simulatorref47_Detect : Known Try.prog := known mixedOk [k_simulatorref47_Score, k_simulatorref02_Cmp] (by decide) [⟨1300006, [(6, 0), (7, 0)], [17, 18, 19, 20, 21, 25, 26, 27, 24, 28, 29, 8, 9, 30, 31, 32, 33, 34, 35, 36, 37, 38, 22, 23], [(0, (0, 0)), (0, (1, 0))], []⟩] plTypes plOk inFuncs insOk 6 ⟨13, [(.a (.row 3 [(.int .i64)] false))], (.t [(.a (.ck (.int .i64))), (.a (.ck .bool))])⟩ (fun args w => Try.call13 args w) tk_simulatorref47_Detect (by kernel_rfl)
theorem k_simulatorref47_Detect_f : k_simulatorref47_Detect.con.f = 13 := rfl
theorem k_simulatorref47_Detect_F (l : List Sc) : k_simulatorref47_Detect.F l = if l.length = 1 then tk_simulatorref47_Detect.den (gam (P := Try.prog) [k_simulatorref47_Score, k_simulatorref02_Cmp]) l [] else none := rfl
def tk_simulatorlaw47_WarmupScores : T (List Ex) :=
 (.ite (.o .lt (.i 1100) (.u .len (.v 0)))
 (.call 9 [] 1
 (.leaf [(.v 2)]))
 (.call 10 [(.v 0), (.v 1)] 3
 (.call 11 [(.v 0), (.v 1)] 3
 (.ite (.o .and (.o .eq (.v 2) (.v 5)) (.o .and (.o .eq (.v 3) (.v 6)) (.b true)))
 (.ite (.o .beq (.v 4) (.v 7))
 (.call 9 [] 1
 (.leaf [(.v 8)]))
 (.leaf [(.b false)]))
 (.leaf [(.b false)])))))
noncomputable def k_simulatorlaw47_WarmupScores : Known Try.prog := known mixedOk [k_simulatorlaw47_awake, k_warmup_Score, k_simulatorref47_Score] (by decide) [] plTypes plOk inFuncs insOk 6 ⟨3, [(.a (.row 3 [(.int .i64)] false)), (.a (.ck (.int .i64)))], (.c (.a (.ck .bool)))⟩ (fun args w => Try.call3 args w) tk_simulatorlaw47_WarmupScores (by kernel_rfl)
theorem k_simulatorlaw47_WarmupScores_f : k_simulatorlaw47_WarmupScores.con.f = 3 := rfl
theorem k_simulatorlaw47_WarmupScores_F (l : List Sc) : k_simulatorlaw47_WarmupScores.F l = if l.length = 2 then tk_simulatorlaw47_WarmupScores.den (gam (P := Try.prog) [k_simulatorlaw47_awake, k_warmup_Score, k_simulatorref47_Score]) l [] else none := rfl
def tk_simulatorlaw47_WarmupDetects : T (List Ex) :=
 (.ite (.o .lt (.i 150) (.u .len (.v 0)))
 (.call 9 [] 1
 (.leaf [(.v 1)]))
 (.call 12 [(.v 0)] 2
 (.call 13 [(.v 0)] 2
 (.ite (.o .eq (.v 1) (.v 3))
 (.ite (.o .beq (.v 2) (.v 4))
 (.call 9 [] 1
 (.leaf [(.v 5)]))
 (.leaf [(.b false)]))
 (.leaf [(.b false)])))))
noncomputable def k_simulatorlaw47_WarmupDetects : Known Try.prog := known mixedOk [k_simulatorlaw47_awake, k_warmup_Detect, k_simulatorref47_Detect] (by decide) [] plTypes plOk inFuncs insOk 6 ⟨5, [(.a (.row 3 [(.int .i64)] false))], (.c (.a (.ck .bool)))⟩ (fun args w => Try.call5 args w) tk_simulatorlaw47_WarmupDetects (by kernel_rfl)
theorem k_simulatorlaw47_WarmupDetects_f : k_simulatorlaw47_WarmupDetects.con.f = 5 := rfl
theorem k_simulatorlaw47_WarmupDetects_F (l : List Sc) : k_simulatorlaw47_WarmupDetects.F l = if l.length = 1 then tk_simulatorlaw47_WarmupDetects.den (gam (P := Try.prog) [k_simulatorlaw47_awake, k_warmup_Detect, k_simulatorref47_Detect]) l [] else none := rfl
end Go.Proofs.Ytmnnikceohepcaa
