/-
  What the functions of this seat reckon: their trees, checked by the kernel. Printed by a program of mine.
-/
import Derived.Test.YtkjgcalkkfgmlaaDoorProg
import Derived.KernelRfl
import Derived.Test.YtkjgcalkkfgmlaaDoorSymX
import Derived.Test.YtkjgcalkkfgmlaaDoorExt
import Derived.Test.YtkjgcalkkfgmlaaDoorGlI
namespace Go.Proofs.YtkjgcalkkfgmlaaDoor
open Go.RowKit
def plTypes : List Nat := [7, 8, 22, 23, 47, 48, 49, 50, 55, 56, 114, 115]
theorem plOk : PlainTy Tryd.prog plTypes := by
  intro t ht
  have := hasN_mem.1 ht
  simp only [plTypes, List.mem_cons, List.not_mem_nil, or_false] at this
  rcases this with rfl | rfl | rfl | rfl | rfl | rfl | rfl | rfl | rfl | rfl | rfl | rfl
  · exact ⟨Tryd.stoodInHeld7, Tryd.eqGuardType7⟩
  · exact ⟨Tryd.stoodInHeld8, Tryd.eqGuardType8⟩
  · exact ⟨Tryd.stoodInHeld22, Tryd.eqGuardType22⟩
  · exact ⟨Tryd.stoodInHeld23, Tryd.eqGuardType23⟩
  · exact ⟨Tryd.stoodInHeld47, Tryd.eqGuardType47⟩
  · exact ⟨Tryd.stoodInHeld48, Tryd.eqGuardType48⟩
  · exact ⟨Tryd.stoodInHeld49, Tryd.eqGuardType49⟩
  · exact ⟨Tryd.stoodInHeld50, Tryd.eqGuardType50⟩
  · exact ⟨Tryd.stoodInHeld55, Tryd.eqGuardType55⟩
  · exact ⟨Tryd.stoodInHeld56, Tryd.eqGuardType56⟩
  · exact ⟨Tryd.stoodInHeld114, Tryd.eqGuardType114⟩
  · exact ⟨Tryd.stoodInHeld115, Tryd.eqGuardType115⟩
def inFuncs : List Nat := []
theorem insOk : ∀ f, hasN inFuncs f = true → ∀ args w, (callFunc f args).run Tryd.prog w = .ok (.enter f args) w := by
  intro f hf
  have := hasN_mem.1 hf
  simp [inFuncs] at this
theorem mixedOk : Tryd.prog.follows .mixedOrders = true := by kernel_rfl
noncomputable def k_bits_Add64 : Known Tryd.prog := ⟨carryCon 64, add64F, add64_holds Tryd.func64 (by kernel_rfl) (by kernel_rfl) (by kernel_rfl) (by kernel_rfl)⟩
theorem k_bits_Add64_f : k_bits_Add64.con.f = 64 := rfl
theorem k_bits_Add64_F (l : List Sc) : k_bits_Add64.F l = add64F l := rfl
noncomputable def k_bits_Sub64 : Known Tryd.prog := ⟨carryCon 65, sub64F, sub64_holds Tryd.func65 (by kernel_rfl) (by kernel_rfl) (by kernel_rfl) (by kernel_rfl)⟩
theorem k_bits_Sub64_f : k_bits_Sub64.con.f = 65 := rfl
theorem k_bits_Sub64_F (l : List Sc) : k_bits_Sub64.F l = sub64F l := rfl
def tk_simulatorlaw02_sign : T (List Ex) :=
 (.ite (.o .lt (.v 0) (.i 0))
 (.leaf [(.i (-1))])
 (.ite (.o .lt (.i 0) (.v 0))
 (.leaf [(.i 1)])
 (.leaf [(.i 0)])))
noncomputable def k_simulatorlaw02_sign : Known Tryd.prog := known mixedOk [] (by decide) [] plTypes plOk inFuncs insOk 6 ⟨22, [(.a (.ck (.int .i64)))], (.c (.a (.ck (.int .i64))))⟩ (fun args w => Tryd.call22 args w) tk_simulatorlaw02_sign (by kernel_rfl)
theorem k_simulatorlaw02_sign_f : k_simulatorlaw02_sign.con.f = 22 := rfl
theorem k_simulatorlaw02_sign_F (l : List Sc) : k_simulatorlaw02_sign.F l = if l.length = 1 then tk_simulatorlaw02_sign.den (gam (P := Tryd.prog) []) l [] else none := rfl
def tk_simulatorlaw02_of : T (List Ex) :=
 (.leaf [(.v 0), (.v 1)])
noncomputable def k_simulatorlaw02_of : Known Tryd.prog := known mixedOk [] (by decide) [] plTypes plOk inFuncs insOk 6 ⟨26, [(.a (.ck (.int .i64))), (.a (.ck (.int .i64)))], (.c (.g [(.ck (.int .i64)), (.ck (.int .i64))]))⟩ (fun args w => Tryd.call26 args w) tk_simulatorlaw02_of (by kernel_rfl)
theorem k_simulatorlaw02_of_f : k_simulatorlaw02_of.con.f = 26 := rfl
theorem k_simulatorlaw02_of_F (l : List Sc) : k_simulatorlaw02_of.F l = if l.length = 2 then tk_simulatorlaw02_of.den (gam (P := Tryd.prog) []) l [] else none := rfl
def tk_frac_gcd : T (List Ex) :=
 (.loop [(.v 0), (.v 1)]
 (.ite (.o .ne (.v 3) (.i 0))
 (.need (.o .ne (.v 3) (.i 0)) (.next 0 [(.v 3), (.o (.rem .u64) (.v 2) (.v 3))]))
 (.leaf [(.v 2)])))
noncomputable def k_frac_gcd : Known Tryd.prog := known mixedOk [] (by decide) [⟨3300001, [(0, 0), (1, 0)], [5, 6, 7, 8, 9, 10], [], []⟩] plTypes plOk inFuncs insOk 6 ⟨33, [(.a (.ck (.int .u64))), (.a (.ck (.int .u64)))], (.c (.a (.ck (.int .u64))))⟩ (fun args w => Tryd.call33 args w) tk_frac_gcd (by kernel_rfl)
theorem k_frac_gcd_f : k_frac_gcd.con.f = 33 := rfl
theorem k_frac_gcd_F (l : List Sc) : k_frac_gcd.F l = if l.length = 2 then tk_frac_gcd.den (gam (P := Tryd.prog) []) l [] else none := rfl
def tk_frac_size : T (List Ex) :=
 (.ite (.o .lt (.v 0) (.i 0))
 (.leaf [(.o (.sub .u64) (.i 0) (.u (.conv .u64) (.v 0)))])
 (.leaf [(.u (.conv .u64) (.v 0))]))
noncomputable def k_frac_size : Known Tryd.prog := known mixedOk [] (by decide) [] plTypes plOk inFuncs insOk 6 ⟨34, [(.a (.ck (.int .i64)))], (.c (.a (.ck (.int .u64))))⟩ (fun args w => Tryd.call34 args w) tk_frac_size (by kernel_rfl)
theorem k_frac_size_f : k_frac_size.con.f = 34 := rfl
theorem k_frac_size_F (l : List Sc) : k_frac_size.F l = if l.length = 1 then tk_frac_size.den (gam (P := Tryd.prog) []) l [] else none := rfl
def tk_frac_made : T (List Ex) :=
 (.ite (.o .lt (.i 4611686018427387904) (.v 1))
 (.leaf [(.i 0), (.i 0), (.b false)])
 (.ite (.o .lt (.i 1000000000000000) (.v 2))
 (.leaf [(.i 0), (.i 0), (.b false)])
 (.ite (.v 0)
 (.leaf [(.o (.sub .i64) (.i 0) (.u (.conv .i64) (.v 1))), (.u (.conv .i64) (.v 2)), (.b true)])
 (.leaf [(.u (.conv .i64) (.v 1)), (.u (.conv .i64) (.v 2)), (.b true)]))))
noncomputable def k_frac_made : Known Tryd.prog := known mixedOk [] (by decide) [] plTypes plOk inFuncs insOk 6 ⟨35, [(.a (.ck .bool)), (.a (.ck (.int .u64))), (.a (.ck (.int .u64)))], (.t [(.g [(.ck (.int .i64)), (.ck (.int .i64))]), (.a (.ck .bool))])⟩ (fun args w => Tryd.call35 args w) tk_frac_made (by kernel_rfl)
theorem k_frac_made_f : k_frac_made.con.f = 35 := rfl
theorem k_frac_made_F (l : List Sc) : k_frac_made.F l = if l.length = 3 then tk_frac_made.den (gam (P := Tryd.prog) []) l [] else none := rfl
def tk_simulatorref02_Size : T (List Ex) :=
 (.ite (.o .lt (.v 0) (.i 0))
 (.leaf [(.o (.add .u64) (.u (.conv .u64) (.o (.sub .i64) (.i 0) (.o (.add .i64) (.v 0) (.i 1)))) (.i 1))])
 (.leaf [(.u (.conv .u64) (.v 0))]))
noncomputable def k_simulatorref02_Size : Known Tryd.prog := known mixedOk [] (by decide) [] plTypes plOk inFuncs insOk 6 ⟨37, [(.a (.ck (.int .i64)))], (.c (.a (.ck (.int .u64))))⟩ (fun args w => Tryd.call37 args w) tk_simulatorref02_Size (by kernel_rfl)
theorem k_simulatorref02_Size_f : k_simulatorref02_Size.con.f = 37 := rfl
theorem k_simulatorref02_Size_F (l : List Sc) : k_simulatorref02_Size.F l = if l.length = 1 then tk_simulatorref02_Size.den (gam (P := Tryd.prog) []) l [] else none := rfl
def tk_num_Text : T (List Ex) :=
 (.call 54 [(.v 0)] 1
 (.leaf [(.v 1)]))
noncomputable def k_num_Text : Known Tryd.prog := known mixedOk [k_strconv_Itoa] (by decide) [] plTypes plOk inFuncs insOk 6 ⟨39, [(.a (.ck (.int .i64)))], (.c (.a (.ck .str)))⟩ (fun args w => Tryd.call39 args w) tk_num_Text (by kernel_rfl)
theorem k_num_Text_f : k_num_Text.con.f = 39 := rfl
theorem k_num_Text_F (l : List Sc) : k_num_Text.F l = if l.length = 1 then tk_num_Text.den (gam (P := Tryd.prog) [k_strconv_Itoa]) l [] else none := rfl
def tk_simulatorref02_Digits : T (List Ex) :=
 (.ite (.o .lt (.v 0) (.i 10))
 (.need (.o .le (.i 0) (.v 0)) (.need (.o .le (.v 0) (.o (.add .u64) (.v 0) (.i 1))) (.need (.o .le (.o (.add .u64) (.v 0) (.i 1)) (.u .slen (.s [48, 49, 50, 51, 52, 53, 54, 55, 56, 57]))) (.leaf [(.t .ssub (.s [48, 49, 50, 51, 52, 53, 54, 55, 56, 57]) (.v 0) (.o (.add .u64) (.v 0) (.i 1)))]))))
 (.call 40 [(.o (.quo .u64) (.v 0) (.i 10))] 1
 (.call 40 [(.o (.rem .u64) (.v 0) (.i 10))] 1
 (.need (.o .le (.u .slen (.o .cat (.v 1) (.v 2))) (.i 9223372036854775807)) (.leaf [(.o .cat (.v 1) (.v 2))])))))
noncomputable def k_simulatorref02_Digits_rec0 : Nat → {k : Known Tryd.prog // k.con = ⟨40, [(.a (.ck (.int .u64)))], (.c (.a (.ck .str)))⟩} := knownRec mixedOk [] ⟨40, [(.a (.ck (.int .u64)))], (.c (.a (.ck .str)))⟩ (by decide) [] plTypes plOk inFuncs insOk 6 (fun args w => Tryd.call40 args w) tk_simulatorref02_Digits (by kernel_rfl)
noncomputable def k_simulatorref02_Digits_rec (n : Nat) : Known Tryd.prog := (k_simulatorref02_Digits_rec0 n).1
theorem k_simulatorref02_Digits_rec_con (n : Nat) : (k_simulatorref02_Digits_rec n).con = ⟨40, [(.a (.ck (.int .u64)))], (.c (.a (.ck .str)))⟩ := (k_simulatorref02_Digits_rec0 n).2
theorem k_simulatorref02_Digits_rec_f (n : Nat) : (k_simulatorref02_Digits_rec n).con.f = 40 := by rw [k_simulatorref02_Digits_rec_con]
theorem k_simulatorref02_Digits_rec_F (n : Nat) (l : List Sc) : (k_simulatorref02_Digits_rec (n + 1)).F l = if l.length = 1 then tk_simulatorref02_Digits.den (gam (P := Tryd.prog) (k_simulatorref02_Digits_rec n :: [])) l [] else none := rfl
noncomputable def k_simulatorref02_Digits : Known Tryd.prog := ⟨⟨40, [(.a (.ck (.int .u64)))], (.c (.a (.ck .str)))⟩, (k_simulatorref02_Digits_rec rounds).F, by rw [← k_simulatorref02_Digits_rec_con rounds]; exact (k_simulatorref02_Digits_rec rounds).holds⟩
theorem k_simulatorref02_Digits_f : k_simulatorref02_Digits.con.f = 40 := rfl
theorem k_simulatorref02_Digits_F (l : List Sc) : k_simulatorref02_Digits.F l = (k_simulatorref02_Digits_rec rounds).F l := rfl
def tk_simulatorref02_Plus : T (List Ex) :=
 (.ite (.o .lt (.o (.add .u64) (.v 1) (.v 3)) (.v 1))
 (.leaf [(.o (.add .u64) (.o (.add .u64) (.v 0) (.v 2)) (.i 1)), (.o (.add .u64) (.v 1) (.v 3))])
 (.leaf [(.o (.add .u64) (.v 0) (.v 2)), (.o (.add .u64) (.v 1) (.v 3))]))
noncomputable def k_simulatorref02_Plus : Known Tryd.prog := known mixedOk [] (by decide) [] plTypes plOk inFuncs insOk 6 ⟨48, [(.g [(.ck (.int .u64)), (.ck (.int .u64))]), (.g [(.ck (.int .u64)), (.ck (.int .u64))])], (.c (.g [(.ck (.int .u64)), (.ck (.int .u64))]))⟩ (fun args w => Tryd.call48 args w) tk_simulatorref02_Plus (by kernel_rfl)
theorem k_simulatorref02_Plus_f : k_simulatorref02_Plus.con.f = 48 := rfl
theorem k_simulatorref02_Plus_F (l : List Sc) : k_simulatorref02_Plus.F l = if l.length = 4 then tk_simulatorref02_Plus.den (gam (P := Tryd.prog) []) l [] else none := rfl
def tk_simulatorref02_Opposite : T (List Ex) :=
 (.leaf [(.o (.sub .i64) (.i 0) (.v 0)), (.v 1)])
noncomputable def k_simulatorref02_Opposite : Known Tryd.prog := known mixedOk [] (by decide) [] plTypes plOk inFuncs insOk 6 ⟨52, [(.g [(.ck (.int .i64)), (.ck (.int .i64))])], (.c (.g [(.ck (.int .i64)), (.ck (.int .i64))]))⟩ (fun args w => Tryd.call52 args w) tk_simulatorref02_Opposite (by kernel_rfl)
theorem k_simulatorref02_Opposite_f : k_simulatorref02_Opposite.con.f = 52 := rfl
theorem k_simulatorref02_Opposite_F (l : List Sc) : k_simulatorref02_Opposite.F l = if l.length = 2 then tk_simulatorref02_Opposite.den (gam (P := Tryd.prog) []) l [] else none := rfl
def tk_frac_wide_plus : T (List Ex) :=
 (.call 64 [(.v 1), (.v 3), (.i 0)] 2
 (.call 64 [(.v 0), (.v 2), (.v 5)] 2
 (.leaf [(.v 6), (.v 4)])))
noncomputable def k_frac_wide_plus : Known Tryd.prog := known mixedOk [k_bits_Add64] (by decide) [] plTypes plOk inFuncs insOk 6 ⟨55, [(.g [(.ck (.int .u64)), (.ck (.int .u64))]), (.g [(.ck (.int .u64)), (.ck (.int .u64))])], (.c (.g [(.ck (.int .u64)), (.ck (.int .u64))]))⟩ (fun args w => Tryd.call55 args w) tk_frac_wide_plus (by kernel_rfl)
theorem k_frac_wide_plus_f : k_frac_wide_plus.con.f = 55 := rfl
theorem k_frac_wide_plus_F (l : List Sc) : k_frac_wide_plus.F l = if l.length = 4 then tk_frac_wide_plus.den (gam (P := Tryd.prog) [k_bits_Add64]) l [] else none := rfl
def tk_frac_wide_minus : T (List Ex) :=
 (.ite (.o .lt (.v 0) (.v 2))
 (.call 56 [(.v 2), (.v 3), (.v 0), (.v 1)] 3
 (.leaf [(.v 4), (.v 5), (.b true)]))
 (.ite (.o .eq (.v 0) (.v 2))
 (.ite (.o .lt (.v 1) (.v 3))
 (.call 56 [(.v 2), (.v 3), (.v 0), (.v 1)] 3
 (.leaf [(.v 4), (.v 5), (.b true)]))
 (.call 65 [(.v 1), (.v 3), (.i 0)] 2
 (.call 65 [(.v 0), (.v 2), (.v 5)] 2
 (.leaf [(.v 6), (.v 4), (.b false)]))))
 (.call 65 [(.v 1), (.v 3), (.i 0)] 2
 (.call 65 [(.v 0), (.v 2), (.v 5)] 2
 (.leaf [(.v 6), (.v 4), (.b false)])))))
noncomputable def k_frac_wide_minus_rec0 : Nat → {k : Known Tryd.prog // k.con = ⟨56, [(.g [(.ck (.int .u64)), (.ck (.int .u64))]), (.g [(.ck (.int .u64)), (.ck (.int .u64))])], (.t [(.g [(.ck (.int .u64)), (.ck (.int .u64))]), (.a (.ck .bool))])⟩} := knownRec mixedOk [k_bits_Sub64] ⟨56, [(.g [(.ck (.int .u64)), (.ck (.int .u64))]), (.g [(.ck (.int .u64)), (.ck (.int .u64))])], (.t [(.g [(.ck (.int .u64)), (.ck (.int .u64))]), (.a (.ck .bool))])⟩ (by decide) [] plTypes plOk inFuncs insOk 6 (fun args w => Tryd.call56 args w) tk_frac_wide_minus (by kernel_rfl)
noncomputable def k_frac_wide_minus_rec (n : Nat) : Known Tryd.prog := (k_frac_wide_minus_rec0 n).1
theorem k_frac_wide_minus_rec_con (n : Nat) : (k_frac_wide_minus_rec n).con = ⟨56, [(.g [(.ck (.int .u64)), (.ck (.int .u64))]), (.g [(.ck (.int .u64)), (.ck (.int .u64))])], (.t [(.g [(.ck (.int .u64)), (.ck (.int .u64))]), (.a (.ck .bool))])⟩ := (k_frac_wide_minus_rec0 n).2
theorem k_frac_wide_minus_rec_f (n : Nat) : (k_frac_wide_minus_rec n).con.f = 56 := by rw [k_frac_wide_minus_rec_con]
theorem k_frac_wide_minus_rec_F (n : Nat) (l : List Sc) : (k_frac_wide_minus_rec (n + 1)).F l = if l.length = 4 then tk_frac_wide_minus.den (gam (P := Tryd.prog) (k_frac_wide_minus_rec n :: [k_bits_Sub64])) l [] else none := rfl
noncomputable def k_frac_wide_minus : Known Tryd.prog := ⟨⟨56, [(.g [(.ck (.int .u64)), (.ck (.int .u64))]), (.g [(.ck (.int .u64)), (.ck (.int .u64))])], (.t [(.g [(.ck (.int .u64)), (.ck (.int .u64))]), (.a (.ck .bool))])⟩, (k_frac_wide_minus_rec rounds).F, by rw [← k_frac_wide_minus_rec_con rounds]; exact (k_frac_wide_minus_rec rounds).holds⟩
theorem k_frac_wide_minus_f : k_frac_wide_minus.con.f = 56 := rfl
theorem k_frac_wide_minus_F (l : List Sc) : k_frac_wide_minus.F l = (k_frac_wide_minus_rec rounds).F l := rfl
def tk_bits_Mul64 : T (List Ex) :=
 (.leaf [(.o (.add .u64) (.o (.add .u64) (.o (.mul .u64) (.o (.shr .u64) (.v 0) (.i 32)) (.o (.shr .u64) (.v 1) (.i 32))) (.o (.shr .u64) (.o (.add .u64) (.o (.mul .u64) (.o (.shr .u64) (.v 0) (.i 32)) (.o (.band .u64) (.v 1) (.i 4294967295))) (.o (.shr .u64) (.o (.mul .u64) (.o (.band .u64) (.v 0) (.i 4294967295)) (.o (.band .u64) (.v 1) (.i 4294967295))) (.i 32))) (.i 32))) (.o (.shr .u64) (.o (.add .u64) (.o (.band .u64) (.o (.add .u64) (.o (.mul .u64) (.o (.shr .u64) (.v 0) (.i 32)) (.o (.band .u64) (.v 1) (.i 4294967295))) (.o (.shr .u64) (.o (.mul .u64) (.o (.band .u64) (.v 0) (.i 4294967295)) (.o (.band .u64) (.v 1) (.i 4294967295))) (.i 32))) (.i 4294967295)) (.o (.mul .u64) (.o (.band .u64) (.v 0) (.i 4294967295)) (.o (.shr .u64) (.v 1) (.i 32)))) (.i 32))), (.o (.mul .u64) (.v 0) (.v 1))])
noncomputable def k_bits_Mul64 : Known Tryd.prog := known mixedOk [] (by decide) [] plTypes plOk inFuncs insOk 6 ⟨57, [(.a (.ck (.int .u64))), (.a (.ck (.int .u64)))], (.t [(.a (.ck (.int .u64))), (.a (.ck (.int .u64)))])⟩ (fun args w => Tryd.call57 args w) tk_bits_Mul64 (by kernel_rfl)
theorem k_bits_Mul64_f : k_bits_Mul64.con.f = 57 := rfl
theorem k_bits_Mul64_F (l : List Sc) : k_bits_Mul64.F l = if l.length = 2 then tk_bits_Mul64.den (gam (P := Tryd.prog) []) l [] else none := rfl
def tk_simulatorref02_bit : T (List Ex) :=
 (.ite (.o .le (.i 64) (.v 2))
 (.need (.o .le (.i 0) (.u (.conv .u64) (.o (.sub .i64) (.v 2) (.i 64)))) (.leaf [(.o (.rem .u64) (.o (.shr .u64) (.v 0) (.u (.conv .u64) (.o (.sub .i64) (.v 2) (.i 64)))) (.i 2))]))
 (.need (.o .le (.i 0) (.u (.conv .u64) (.v 2))) (.leaf [(.o (.rem .u64) (.o (.shr .u64) (.v 1) (.u (.conv .u64) (.v 2))) (.i 2))])))
noncomputable def k_simulatorref02_bit : Known Tryd.prog := known mixedOk [] (by decide) [] plTypes plOk inFuncs insOk 6 ⟨59, [(.g [(.ck (.int .u64)), (.ck (.int .u64))]), (.a (.ck (.int .i64)))], (.c (.a (.ck (.int .u64))))⟩ (fun args w => Tryd.call59 args w) tk_simulatorref02_bit (by kernel_rfl)
theorem k_simulatorref02_bit_f : k_simulatorref02_bit.con.f = 59 := rfl
theorem k_simulatorref02_bit_F (l : List Sc) : k_simulatorref02_bit.F l = if l.length = 3 then tk_simulatorref02_bit.den (gam (P := Tryd.prog) []) l [] else none := rfl
def tk_simulatorref02_Less : T (List Ex) :=
 (.ite (.o .lt (.v 0) (.v 2))
 (.leaf [(.b true)])
 (.ite (.o .eq (.v 0) (.v 2))
 (.leaf [(.o .lt (.v 1) (.v 3))])
 (.leaf [(.b false)])))
noncomputable def k_simulatorref02_Less : Known Tryd.prog := known mixedOk [] (by decide) [] plTypes plOk inFuncs insOk 6 ⟨60, [(.g [(.ck (.int .u64)), (.ck (.int .u64))]), (.g [(.ck (.int .u64)), (.ck (.int .u64))])], (.c (.a (.ck .bool)))⟩ (fun args w => Tryd.call60 args w) tk_simulatorref02_Less (by kernel_rfl)
theorem k_simulatorref02_Less_f : k_simulatorref02_Less.con.f = 60 := rfl
theorem k_simulatorref02_Less_F (l : List Sc) : k_simulatorref02_Less.F l = if l.length = 4 then tk_simulatorref02_Less.den (gam (P := Tryd.prog) []) l [] else none := rfl
def tk_simulatorref02_Minus : T (List Ex) :=
 (.ite (.o .lt (.v 1) (.v 3))
 (.leaf [(.o (.sub .u64) (.o (.sub .u64) (.v 0) (.v 2)) (.i 1)), (.o (.sub .u64) (.v 1) (.v 3))])
 (.leaf [(.o (.sub .u64) (.v 0) (.v 2)), (.o (.sub .u64) (.v 1) (.v 3))]))
noncomputable def k_simulatorref02_Minus : Known Tryd.prog := known mixedOk [] (by decide) [] plTypes plOk inFuncs insOk 6 ⟨61, [(.g [(.ck (.int .u64)), (.ck (.int .u64))]), (.g [(.ck (.int .u64)), (.ck (.int .u64))])], (.c (.g [(.ck (.int .u64)), (.ck (.int .u64))]))⟩ (fun args w => Tryd.call61 args w) tk_simulatorref02_Minus (by kernel_rfl)
theorem k_simulatorref02_Minus_f : k_simulatorref02_Minus.con.f = 61 := rfl
theorem k_simulatorref02_Minus_F (l : List Sc) : k_simulatorref02_Minus.F l = if l.length = 4 then tk_simulatorref02_Minus.den (gam (P := Tryd.prog) []) l [] else none := rfl
def tk_simulatorref02_Scale : T (List Ex) :=
 (.loop [(.i 63), (.i 0), (.i 0)]
 (.ite (.o .le (.i 0) (.v 3))
 (.call 48 [(.v 4), (.v 5), (.v 4), (.v 5)] 2
 (.call 59 [(.i 0), (.v 2), (.v 3)] 1
 (.ite (.o .eq (.v 8) (.i 1))
 (.call 48 [(.v 6), (.v 7), (.v 0), (.v 1)] 2
 (.next 0 [(.o (.sub .i64) (.v 3) (.i 1)), (.v 9), (.v 10)]))
 (.next 0 [(.o (.sub .i64) (.v 3) (.i 1)), (.v 6), (.v 7)]))))
 (.leaf [(.v 4), (.v 5)])))
noncomputable def k_simulatorref02_Scale : Known Tryd.prog := known mixedOk [k_simulatorref02_Plus, k_simulatorref02_bit] (by decide) [⟨6200003, [(6, 0)], [8, 9, 12, 13, 14, 15, 16, 17, 18, 19, 20, 21, 22, 10, 11], [(2, (0, 0)), (2, (1, 0))], []⟩] plTypes plOk inFuncs insOk 6 ⟨62, [(.g [(.ck (.int .u64)), (.ck (.int .u64))]), (.a (.ck (.int .u64)))], (.c (.g [(.ck (.int .u64)), (.ck (.int .u64))]))⟩ (fun args w => Tryd.call62 args w) tk_simulatorref02_Scale (by kernel_rfl)
theorem k_simulatorref02_Scale_f : k_simulatorref02_Scale.con.f = 62 := rfl
theorem k_simulatorref02_Scale_F (l : List Sc) : k_simulatorref02_Scale.F l = if l.length = 3 then tk_simulatorref02_Scale.den (gam (P := Tryd.prog) [k_simulatorref02_Plus, k_simulatorref02_bit]) l [] else none := rfl
def tk_bits_Len64 : T (List Ex) :=
 (.ite (.o .le (.i 4294967296) (.v 0))
 (.ite (.o .le (.i 65536) (.o (.shr .u64) (.v 0) (.i 32)))
 (.ite (.o .le (.i 256) (.o (.shr .u64) (.o (.shr .u64) (.v 0) (.i 32)) (.i 16)))
 (.need (.o .le (.i 0) (.u (.conv .u8) (.o (.shr .u64) (.o (.shr .u64) (.o (.shr .u64) (.v 0) (.i 32)) (.i 16)) (.i 8)))) (.need (.o .lt (.u (.conv .u8) (.o (.shr .u64) (.o (.shr .u64) (.o (.shr .u64) (.v 0) (.i 32)) (.i 16)) (.i 8))) (.u .slen (.s [0, 1, 2, 2, 3, 3, 3, 3, 4, 4, 4, 4, 4, 4, 4, 4, 5, 5, 5, 5, 5, 5, 5, 5, 5, 5, 5, 5, 5, 5, 5, 5, 6, 6, 6, 6, 6, 6, 6, 6, 6, 6, 6, 6, 6, 6, 6, 6, 6, 6, 6, 6, 6, 6, 6, 6, 6, 6, 6, 6, 6, 6, 6, 6, 7, 7, 7, 7, 7, 7, 7, 7, 7, 7, 7, 7, 7, 7, 7, 7, 7, 7, 7, 7, 7, 7, 7, 7, 7, 7, 7, 7, 7, 7, 7, 7, 7, 7, 7, 7, 7, 7, 7, 7, 7, 7, 7, 7, 7, 7, 7, 7, 7, 7, 7, 7, 7, 7, 7, 7, 7, 7, 7, 7, 7, 7, 7, 7, 8, 8, 8, 8, 8, 8, 8, 8, 8, 8, 8, 8, 8, 8, 8, 8, 8, 8, 8, 8, 8, 8, 8, 8, 8, 8, 8, 8, 8, 8, 8, 8, 8, 8, 8, 8, 8, 8, 8, 8, 8, 8, 8, 8, 8, 8, 8, 8, 8, 8, 8, 8, 8, 8, 8, 8, 8, 8, 8, 8, 8, 8, 8, 8, 8, 8, 8, 8, 8, 8, 8, 8, 8, 8, 8, 8, 8, 8, 8, 8, 8, 8, 8, 8, 8, 8, 8, 8, 8, 8, 8, 8, 8, 8, 8, 8, 8, 8, 8, 8, 8, 8, 8, 8, 8, 8, 8, 8, 8, 8, 8, 8, 8, 8, 8, 8, 8, 8, 8, 8, 8, 8, 8, 8, 8, 8, 8, 8]))) (.leaf [(.o (.add .i64) (.i 56) (.u (.conv .i64) (.o .sidx (.s [0, 1, 2, 2, 3, 3, 3, 3, 4, 4, 4, 4, 4, 4, 4, 4, 5, 5, 5, 5, 5, 5, 5, 5, 5, 5, 5, 5, 5, 5, 5, 5, 6, 6, 6, 6, 6, 6, 6, 6, 6, 6, 6, 6, 6, 6, 6, 6, 6, 6, 6, 6, 6, 6, 6, 6, 6, 6, 6, 6, 6, 6, 6, 6, 7, 7, 7, 7, 7, 7, 7, 7, 7, 7, 7, 7, 7, 7, 7, 7, 7, 7, 7, 7, 7, 7, 7, 7, 7, 7, 7, 7, 7, 7, 7, 7, 7, 7, 7, 7, 7, 7, 7, 7, 7, 7, 7, 7, 7, 7, 7, 7, 7, 7, 7, 7, 7, 7, 7, 7, 7, 7, 7, 7, 7, 7, 7, 7, 8, 8, 8, 8, 8, 8, 8, 8, 8, 8, 8, 8, 8, 8, 8, 8, 8, 8, 8, 8, 8, 8, 8, 8, 8, 8, 8, 8, 8, 8, 8, 8, 8, 8, 8, 8, 8, 8, 8, 8, 8, 8, 8, 8, 8, 8, 8, 8, 8, 8, 8, 8, 8, 8, 8, 8, 8, 8, 8, 8, 8, 8, 8, 8, 8, 8, 8, 8, 8, 8, 8, 8, 8, 8, 8, 8, 8, 8, 8, 8, 8, 8, 8, 8, 8, 8, 8, 8, 8, 8, 8, 8, 8, 8, 8, 8, 8, 8, 8, 8, 8, 8, 8, 8, 8, 8, 8, 8, 8, 8, 8, 8, 8, 8, 8, 8, 8, 8, 8, 8, 8, 8, 8, 8, 8, 8, 8, 8]) (.u (.conv .u8) (.o (.shr .u64) (.o (.shr .u64) (.o (.shr .u64) (.v 0) (.i 32)) (.i 16)) (.i 8))))))])))
 (.need (.o .le (.i 0) (.u (.conv .u8) (.o (.shr .u64) (.o (.shr .u64) (.v 0) (.i 32)) (.i 16)))) (.need (.o .lt (.u (.conv .u8) (.o (.shr .u64) (.o (.shr .u64) (.v 0) (.i 32)) (.i 16))) (.u .slen (.s [0, 1, 2, 2, 3, 3, 3, 3, 4, 4, 4, 4, 4, 4, 4, 4, 5, 5, 5, 5, 5, 5, 5, 5, 5, 5, 5, 5, 5, 5, 5, 5, 6, 6, 6, 6, 6, 6, 6, 6, 6, 6, 6, 6, 6, 6, 6, 6, 6, 6, 6, 6, 6, 6, 6, 6, 6, 6, 6, 6, 6, 6, 6, 6, 7, 7, 7, 7, 7, 7, 7, 7, 7, 7, 7, 7, 7, 7, 7, 7, 7, 7, 7, 7, 7, 7, 7, 7, 7, 7, 7, 7, 7, 7, 7, 7, 7, 7, 7, 7, 7, 7, 7, 7, 7, 7, 7, 7, 7, 7, 7, 7, 7, 7, 7, 7, 7, 7, 7, 7, 7, 7, 7, 7, 7, 7, 7, 7, 8, 8, 8, 8, 8, 8, 8, 8, 8, 8, 8, 8, 8, 8, 8, 8, 8, 8, 8, 8, 8, 8, 8, 8, 8, 8, 8, 8, 8, 8, 8, 8, 8, 8, 8, 8, 8, 8, 8, 8, 8, 8, 8, 8, 8, 8, 8, 8, 8, 8, 8, 8, 8, 8, 8, 8, 8, 8, 8, 8, 8, 8, 8, 8, 8, 8, 8, 8, 8, 8, 8, 8, 8, 8, 8, 8, 8, 8, 8, 8, 8, 8, 8, 8, 8, 8, 8, 8, 8, 8, 8, 8, 8, 8, 8, 8, 8, 8, 8, 8, 8, 8, 8, 8, 8, 8, 8, 8, 8, 8, 8, 8, 8, 8, 8, 8, 8, 8, 8, 8, 8, 8, 8, 8, 8, 8, 8, 8]))) (.leaf [(.o (.add .i64) (.i 48) (.u (.conv .i64) (.o .sidx (.s [0, 1, 2, 2, 3, 3, 3, 3, 4, 4, 4, 4, 4, 4, 4, 4, 5, 5, 5, 5, 5, 5, 5, 5, 5, 5, 5, 5, 5, 5, 5, 5, 6, 6, 6, 6, 6, 6, 6, 6, 6, 6, 6, 6, 6, 6, 6, 6, 6, 6, 6, 6, 6, 6, 6, 6, 6, 6, 6, 6, 6, 6, 6, 6, 7, 7, 7, 7, 7, 7, 7, 7, 7, 7, 7, 7, 7, 7, 7, 7, 7, 7, 7, 7, 7, 7, 7, 7, 7, 7, 7, 7, 7, 7, 7, 7, 7, 7, 7, 7, 7, 7, 7, 7, 7, 7, 7, 7, 7, 7, 7, 7, 7, 7, 7, 7, 7, 7, 7, 7, 7, 7, 7, 7, 7, 7, 7, 7, 8, 8, 8, 8, 8, 8, 8, 8, 8, 8, 8, 8, 8, 8, 8, 8, 8, 8, 8, 8, 8, 8, 8, 8, 8, 8, 8, 8, 8, 8, 8, 8, 8, 8, 8, 8, 8, 8, 8, 8, 8, 8, 8, 8, 8, 8, 8, 8, 8, 8, 8, 8, 8, 8, 8, 8, 8, 8, 8, 8, 8, 8, 8, 8, 8, 8, 8, 8, 8, 8, 8, 8, 8, 8, 8, 8, 8, 8, 8, 8, 8, 8, 8, 8, 8, 8, 8, 8, 8, 8, 8, 8, 8, 8, 8, 8, 8, 8, 8, 8, 8, 8, 8, 8, 8, 8, 8, 8, 8, 8, 8, 8, 8, 8, 8, 8, 8, 8, 8, 8, 8, 8, 8, 8, 8, 8, 8, 8]) (.u (.conv .u8) (.o (.shr .u64) (.o (.shr .u64) (.v 0) (.i 32)) (.i 16))))))]))))
 (.ite (.o .le (.i 256) (.o (.shr .u64) (.v 0) (.i 32)))
 (.need (.o .le (.i 0) (.u (.conv .u8) (.o (.shr .u64) (.o (.shr .u64) (.v 0) (.i 32)) (.i 8)))) (.need (.o .lt (.u (.conv .u8) (.o (.shr .u64) (.o (.shr .u64) (.v 0) (.i 32)) (.i 8))) (.u .slen (.s [0, 1, 2, 2, 3, 3, 3, 3, 4, 4, 4, 4, 4, 4, 4, 4, 5, 5, 5, 5, 5, 5, 5, 5, 5, 5, 5, 5, 5, 5, 5, 5, 6, 6, 6, 6, 6, 6, 6, 6, 6, 6, 6, 6, 6, 6, 6, 6, 6, 6, 6, 6, 6, 6, 6, 6, 6, 6, 6, 6, 6, 6, 6, 6, 7, 7, 7, 7, 7, 7, 7, 7, 7, 7, 7, 7, 7, 7, 7, 7, 7, 7, 7, 7, 7, 7, 7, 7, 7, 7, 7, 7, 7, 7, 7, 7, 7, 7, 7, 7, 7, 7, 7, 7, 7, 7, 7, 7, 7, 7, 7, 7, 7, 7, 7, 7, 7, 7, 7, 7, 7, 7, 7, 7, 7, 7, 7, 7, 8, 8, 8, 8, 8, 8, 8, 8, 8, 8, 8, 8, 8, 8, 8, 8, 8, 8, 8, 8, 8, 8, 8, 8, 8, 8, 8, 8, 8, 8, 8, 8, 8, 8, 8, 8, 8, 8, 8, 8, 8, 8, 8, 8, 8, 8, 8, 8, 8, 8, 8, 8, 8, 8, 8, 8, 8, 8, 8, 8, 8, 8, 8, 8, 8, 8, 8, 8, 8, 8, 8, 8, 8, 8, 8, 8, 8, 8, 8, 8, 8, 8, 8, 8, 8, 8, 8, 8, 8, 8, 8, 8, 8, 8, 8, 8, 8, 8, 8, 8, 8, 8, 8, 8, 8, 8, 8, 8, 8, 8, 8, 8, 8, 8, 8, 8, 8, 8, 8, 8, 8, 8, 8, 8, 8, 8, 8, 8]))) (.leaf [(.o (.add .i64) (.i 40) (.u (.conv .i64) (.o .sidx (.s [0, 1, 2, 2, 3, 3, 3, 3, 4, 4, 4, 4, 4, 4, 4, 4, 5, 5, 5, 5, 5, 5, 5, 5, 5, 5, 5, 5, 5, 5, 5, 5, 6, 6, 6, 6, 6, 6, 6, 6, 6, 6, 6, 6, 6, 6, 6, 6, 6, 6, 6, 6, 6, 6, 6, 6, 6, 6, 6, 6, 6, 6, 6, 6, 7, 7, 7, 7, 7, 7, 7, 7, 7, 7, 7, 7, 7, 7, 7, 7, 7, 7, 7, 7, 7, 7, 7, 7, 7, 7, 7, 7, 7, 7, 7, 7, 7, 7, 7, 7, 7, 7, 7, 7, 7, 7, 7, 7, 7, 7, 7, 7, 7, 7, 7, 7, 7, 7, 7, 7, 7, 7, 7, 7, 7, 7, 7, 7, 8, 8, 8, 8, 8, 8, 8, 8, 8, 8, 8, 8, 8, 8, 8, 8, 8, 8, 8, 8, 8, 8, 8, 8, 8, 8, 8, 8, 8, 8, 8, 8, 8, 8, 8, 8, 8, 8, 8, 8, 8, 8, 8, 8, 8, 8, 8, 8, 8, 8, 8, 8, 8, 8, 8, 8, 8, 8, 8, 8, 8, 8, 8, 8, 8, 8, 8, 8, 8, 8, 8, 8, 8, 8, 8, 8, 8, 8, 8, 8, 8, 8, 8, 8, 8, 8, 8, 8, 8, 8, 8, 8, 8, 8, 8, 8, 8, 8, 8, 8, 8, 8, 8, 8, 8, 8, 8, 8, 8, 8, 8, 8, 8, 8, 8, 8, 8, 8, 8, 8, 8, 8, 8, 8, 8, 8, 8, 8]) (.u (.conv .u8) (.o (.shr .u64) (.o (.shr .u64) (.v 0) (.i 32)) (.i 8))))))])))
 (.need (.o .le (.i 0) (.u (.conv .u8) (.o (.shr .u64) (.v 0) (.i 32)))) (.need (.o .lt (.u (.conv .u8) (.o (.shr .u64) (.v 0) (.i 32))) (.u .slen (.s [0, 1, 2, 2, 3, 3, 3, 3, 4, 4, 4, 4, 4, 4, 4, 4, 5, 5, 5, 5, 5, 5, 5, 5, 5, 5, 5, 5, 5, 5, 5, 5, 6, 6, 6, 6, 6, 6, 6, 6, 6, 6, 6, 6, 6, 6, 6, 6, 6, 6, 6, 6, 6, 6, 6, 6, 6, 6, 6, 6, 6, 6, 6, 6, 7, 7, 7, 7, 7, 7, 7, 7, 7, 7, 7, 7, 7, 7, 7, 7, 7, 7, 7, 7, 7, 7, 7, 7, 7, 7, 7, 7, 7, 7, 7, 7, 7, 7, 7, 7, 7, 7, 7, 7, 7, 7, 7, 7, 7, 7, 7, 7, 7, 7, 7, 7, 7, 7, 7, 7, 7, 7, 7, 7, 7, 7, 7, 7, 8, 8, 8, 8, 8, 8, 8, 8, 8, 8, 8, 8, 8, 8, 8, 8, 8, 8, 8, 8, 8, 8, 8, 8, 8, 8, 8, 8, 8, 8, 8, 8, 8, 8, 8, 8, 8, 8, 8, 8, 8, 8, 8, 8, 8, 8, 8, 8, 8, 8, 8, 8, 8, 8, 8, 8, 8, 8, 8, 8, 8, 8, 8, 8, 8, 8, 8, 8, 8, 8, 8, 8, 8, 8, 8, 8, 8, 8, 8, 8, 8, 8, 8, 8, 8, 8, 8, 8, 8, 8, 8, 8, 8, 8, 8, 8, 8, 8, 8, 8, 8, 8, 8, 8, 8, 8, 8, 8, 8, 8, 8, 8, 8, 8, 8, 8, 8, 8, 8, 8, 8, 8, 8, 8, 8, 8, 8, 8]))) (.leaf [(.o (.add .i64) (.i 32) (.u (.conv .i64) (.o .sidx (.s [0, 1, 2, 2, 3, 3, 3, 3, 4, 4, 4, 4, 4, 4, 4, 4, 5, 5, 5, 5, 5, 5, 5, 5, 5, 5, 5, 5, 5, 5, 5, 5, 6, 6, 6, 6, 6, 6, 6, 6, 6, 6, 6, 6, 6, 6, 6, 6, 6, 6, 6, 6, 6, 6, 6, 6, 6, 6, 6, 6, 6, 6, 6, 6, 7, 7, 7, 7, 7, 7, 7, 7, 7, 7, 7, 7, 7, 7, 7, 7, 7, 7, 7, 7, 7, 7, 7, 7, 7, 7, 7, 7, 7, 7, 7, 7, 7, 7, 7, 7, 7, 7, 7, 7, 7, 7, 7, 7, 7, 7, 7, 7, 7, 7, 7, 7, 7, 7, 7, 7, 7, 7, 7, 7, 7, 7, 7, 7, 8, 8, 8, 8, 8, 8, 8, 8, 8, 8, 8, 8, 8, 8, 8, 8, 8, 8, 8, 8, 8, 8, 8, 8, 8, 8, 8, 8, 8, 8, 8, 8, 8, 8, 8, 8, 8, 8, 8, 8, 8, 8, 8, 8, 8, 8, 8, 8, 8, 8, 8, 8, 8, 8, 8, 8, 8, 8, 8, 8, 8, 8, 8, 8, 8, 8, 8, 8, 8, 8, 8, 8, 8, 8, 8, 8, 8, 8, 8, 8, 8, 8, 8, 8, 8, 8, 8, 8, 8, 8, 8, 8, 8, 8, 8, 8, 8, 8, 8, 8, 8, 8, 8, 8, 8, 8, 8, 8, 8, 8, 8, 8, 8, 8, 8, 8, 8, 8, 8, 8, 8, 8, 8, 8, 8, 8, 8, 8]) (.u (.conv .u8) (.o (.shr .u64) (.v 0) (.i 32))))))])))))
 (.ite (.o .le (.i 65536) (.v 0))
 (.ite (.o .le (.i 256) (.o (.shr .u64) (.v 0) (.i 16)))
 (.need (.o .le (.i 0) (.u (.conv .u8) (.o (.shr .u64) (.o (.shr .u64) (.v 0) (.i 16)) (.i 8)))) (.need (.o .lt (.u (.conv .u8) (.o (.shr .u64) (.o (.shr .u64) (.v 0) (.i 16)) (.i 8))) (.u .slen (.s [0, 1, 2, 2, 3, 3, 3, 3, 4, 4, 4, 4, 4, 4, 4, 4, 5, 5, 5, 5, 5, 5, 5, 5, 5, 5, 5, 5, 5, 5, 5, 5, 6, 6, 6, 6, 6, 6, 6, 6, 6, 6, 6, 6, 6, 6, 6, 6, 6, 6, 6, 6, 6, 6, 6, 6, 6, 6, 6, 6, 6, 6, 6, 6, 7, 7, 7, 7, 7, 7, 7, 7, 7, 7, 7, 7, 7, 7, 7, 7, 7, 7, 7, 7, 7, 7, 7, 7, 7, 7, 7, 7, 7, 7, 7, 7, 7, 7, 7, 7, 7, 7, 7, 7, 7, 7, 7, 7, 7, 7, 7, 7, 7, 7, 7, 7, 7, 7, 7, 7, 7, 7, 7, 7, 7, 7, 7, 7, 8, 8, 8, 8, 8, 8, 8, 8, 8, 8, 8, 8, 8, 8, 8, 8, 8, 8, 8, 8, 8, 8, 8, 8, 8, 8, 8, 8, 8, 8, 8, 8, 8, 8, 8, 8, 8, 8, 8, 8, 8, 8, 8, 8, 8, 8, 8, 8, 8, 8, 8, 8, 8, 8, 8, 8, 8, 8, 8, 8, 8, 8, 8, 8, 8, 8, 8, 8, 8, 8, 8, 8, 8, 8, 8, 8, 8, 8, 8, 8, 8, 8, 8, 8, 8, 8, 8, 8, 8, 8, 8, 8, 8, 8, 8, 8, 8, 8, 8, 8, 8, 8, 8, 8, 8, 8, 8, 8, 8, 8, 8, 8, 8, 8, 8, 8, 8, 8, 8, 8, 8, 8, 8, 8, 8, 8, 8, 8]))) (.leaf [(.o (.add .i64) (.i 24) (.u (.conv .i64) (.o .sidx (.s [0, 1, 2, 2, 3, 3, 3, 3, 4, 4, 4, 4, 4, 4, 4, 4, 5, 5, 5, 5, 5, 5, 5, 5, 5, 5, 5, 5, 5, 5, 5, 5, 6, 6, 6, 6, 6, 6, 6, 6, 6, 6, 6, 6, 6, 6, 6, 6, 6, 6, 6, 6, 6, 6, 6, 6, 6, 6, 6, 6, 6, 6, 6, 6, 7, 7, 7, 7, 7, 7, 7, 7, 7, 7, 7, 7, 7, 7, 7, 7, 7, 7, 7, 7, 7, 7, 7, 7, 7, 7, 7, 7, 7, 7, 7, 7, 7, 7, 7, 7, 7, 7, 7, 7, 7, 7, 7, 7, 7, 7, 7, 7, 7, 7, 7, 7, 7, 7, 7, 7, 7, 7, 7, 7, 7, 7, 7, 7, 8, 8, 8, 8, 8, 8, 8, 8, 8, 8, 8, 8, 8, 8, 8, 8, 8, 8, 8, 8, 8, 8, 8, 8, 8, 8, 8, 8, 8, 8, 8, 8, 8, 8, 8, 8, 8, 8, 8, 8, 8, 8, 8, 8, 8, 8, 8, 8, 8, 8, 8, 8, 8, 8, 8, 8, 8, 8, 8, 8, 8, 8, 8, 8, 8, 8, 8, 8, 8, 8, 8, 8, 8, 8, 8, 8, 8, 8, 8, 8, 8, 8, 8, 8, 8, 8, 8, 8, 8, 8, 8, 8, 8, 8, 8, 8, 8, 8, 8, 8, 8, 8, 8, 8, 8, 8, 8, 8, 8, 8, 8, 8, 8, 8, 8, 8, 8, 8, 8, 8, 8, 8, 8, 8, 8, 8, 8, 8]) (.u (.conv .u8) (.o (.shr .u64) (.o (.shr .u64) (.v 0) (.i 16)) (.i 8))))))])))
 (.need (.o .le (.i 0) (.u (.conv .u8) (.o (.shr .u64) (.v 0) (.i 16)))) (.need (.o .lt (.u (.conv .u8) (.o (.shr .u64) (.v 0) (.i 16))) (.u .slen (.s [0, 1, 2, 2, 3, 3, 3, 3, 4, 4, 4, 4, 4, 4, 4, 4, 5, 5, 5, 5, 5, 5, 5, 5, 5, 5, 5, 5, 5, 5, 5, 5, 6, 6, 6, 6, 6, 6, 6, 6, 6, 6, 6, 6, 6, 6, 6, 6, 6, 6, 6, 6, 6, 6, 6, 6, 6, 6, 6, 6, 6, 6, 6, 6, 7, 7, 7, 7, 7, 7, 7, 7, 7, 7, 7, 7, 7, 7, 7, 7, 7, 7, 7, 7, 7, 7, 7, 7, 7, 7, 7, 7, 7, 7, 7, 7, 7, 7, 7, 7, 7, 7, 7, 7, 7, 7, 7, 7, 7, 7, 7, 7, 7, 7, 7, 7, 7, 7, 7, 7, 7, 7, 7, 7, 7, 7, 7, 7, 8, 8, 8, 8, 8, 8, 8, 8, 8, 8, 8, 8, 8, 8, 8, 8, 8, 8, 8, 8, 8, 8, 8, 8, 8, 8, 8, 8, 8, 8, 8, 8, 8, 8, 8, 8, 8, 8, 8, 8, 8, 8, 8, 8, 8, 8, 8, 8, 8, 8, 8, 8, 8, 8, 8, 8, 8, 8, 8, 8, 8, 8, 8, 8, 8, 8, 8, 8, 8, 8, 8, 8, 8, 8, 8, 8, 8, 8, 8, 8, 8, 8, 8, 8, 8, 8, 8, 8, 8, 8, 8, 8, 8, 8, 8, 8, 8, 8, 8, 8, 8, 8, 8, 8, 8, 8, 8, 8, 8, 8, 8, 8, 8, 8, 8, 8, 8, 8, 8, 8, 8, 8, 8, 8, 8, 8, 8, 8]))) (.leaf [(.o (.add .i64) (.i 16) (.u (.conv .i64) (.o .sidx (.s [0, 1, 2, 2, 3, 3, 3, 3, 4, 4, 4, 4, 4, 4, 4, 4, 5, 5, 5, 5, 5, 5, 5, 5, 5, 5, 5, 5, 5, 5, 5, 5, 6, 6, 6, 6, 6, 6, 6, 6, 6, 6, 6, 6, 6, 6, 6, 6, 6, 6, 6, 6, 6, 6, 6, 6, 6, 6, 6, 6, 6, 6, 6, 6, 7, 7, 7, 7, 7, 7, 7, 7, 7, 7, 7, 7, 7, 7, 7, 7, 7, 7, 7, 7, 7, 7, 7, 7, 7, 7, 7, 7, 7, 7, 7, 7, 7, 7, 7, 7, 7, 7, 7, 7, 7, 7, 7, 7, 7, 7, 7, 7, 7, 7, 7, 7, 7, 7, 7, 7, 7, 7, 7, 7, 7, 7, 7, 7, 8, 8, 8, 8, 8, 8, 8, 8, 8, 8, 8, 8, 8, 8, 8, 8, 8, 8, 8, 8, 8, 8, 8, 8, 8, 8, 8, 8, 8, 8, 8, 8, 8, 8, 8, 8, 8, 8, 8, 8, 8, 8, 8, 8, 8, 8, 8, 8, 8, 8, 8, 8, 8, 8, 8, 8, 8, 8, 8, 8, 8, 8, 8, 8, 8, 8, 8, 8, 8, 8, 8, 8, 8, 8, 8, 8, 8, 8, 8, 8, 8, 8, 8, 8, 8, 8, 8, 8, 8, 8, 8, 8, 8, 8, 8, 8, 8, 8, 8, 8, 8, 8, 8, 8, 8, 8, 8, 8, 8, 8, 8, 8, 8, 8, 8, 8, 8, 8, 8, 8, 8, 8, 8, 8, 8, 8, 8, 8]) (.u (.conv .u8) (.o (.shr .u64) (.v 0) (.i 16))))))]))))
 (.ite (.o .le (.i 256) (.v 0))
 (.need (.o .le (.i 0) (.u (.conv .u8) (.o (.shr .u64) (.v 0) (.i 8)))) (.need (.o .lt (.u (.conv .u8) (.o (.shr .u64) (.v 0) (.i 8))) (.u .slen (.s [0, 1, 2, 2, 3, 3, 3, 3, 4, 4, 4, 4, 4, 4, 4, 4, 5, 5, 5, 5, 5, 5, 5, 5, 5, 5, 5, 5, 5, 5, 5, 5, 6, 6, 6, 6, 6, 6, 6, 6, 6, 6, 6, 6, 6, 6, 6, 6, 6, 6, 6, 6, 6, 6, 6, 6, 6, 6, 6, 6, 6, 6, 6, 6, 7, 7, 7, 7, 7, 7, 7, 7, 7, 7, 7, 7, 7, 7, 7, 7, 7, 7, 7, 7, 7, 7, 7, 7, 7, 7, 7, 7, 7, 7, 7, 7, 7, 7, 7, 7, 7, 7, 7, 7, 7, 7, 7, 7, 7, 7, 7, 7, 7, 7, 7, 7, 7, 7, 7, 7, 7, 7, 7, 7, 7, 7, 7, 7, 8, 8, 8, 8, 8, 8, 8, 8, 8, 8, 8, 8, 8, 8, 8, 8, 8, 8, 8, 8, 8, 8, 8, 8, 8, 8, 8, 8, 8, 8, 8, 8, 8, 8, 8, 8, 8, 8, 8, 8, 8, 8, 8, 8, 8, 8, 8, 8, 8, 8, 8, 8, 8, 8, 8, 8, 8, 8, 8, 8, 8, 8, 8, 8, 8, 8, 8, 8, 8, 8, 8, 8, 8, 8, 8, 8, 8, 8, 8, 8, 8, 8, 8, 8, 8, 8, 8, 8, 8, 8, 8, 8, 8, 8, 8, 8, 8, 8, 8, 8, 8, 8, 8, 8, 8, 8, 8, 8, 8, 8, 8, 8, 8, 8, 8, 8, 8, 8, 8, 8, 8, 8, 8, 8, 8, 8, 8, 8]))) (.leaf [(.o (.add .i64) (.i 8) (.u (.conv .i64) (.o .sidx (.s [0, 1, 2, 2, 3, 3, 3, 3, 4, 4, 4, 4, 4, 4, 4, 4, 5, 5, 5, 5, 5, 5, 5, 5, 5, 5, 5, 5, 5, 5, 5, 5, 6, 6, 6, 6, 6, 6, 6, 6, 6, 6, 6, 6, 6, 6, 6, 6, 6, 6, 6, 6, 6, 6, 6, 6, 6, 6, 6, 6, 6, 6, 6, 6, 7, 7, 7, 7, 7, 7, 7, 7, 7, 7, 7, 7, 7, 7, 7, 7, 7, 7, 7, 7, 7, 7, 7, 7, 7, 7, 7, 7, 7, 7, 7, 7, 7, 7, 7, 7, 7, 7, 7, 7, 7, 7, 7, 7, 7, 7, 7, 7, 7, 7, 7, 7, 7, 7, 7, 7, 7, 7, 7, 7, 7, 7, 7, 7, 8, 8, 8, 8, 8, 8, 8, 8, 8, 8, 8, 8, 8, 8, 8, 8, 8, 8, 8, 8, 8, 8, 8, 8, 8, 8, 8, 8, 8, 8, 8, 8, 8, 8, 8, 8, 8, 8, 8, 8, 8, 8, 8, 8, 8, 8, 8, 8, 8, 8, 8, 8, 8, 8, 8, 8, 8, 8, 8, 8, 8, 8, 8, 8, 8, 8, 8, 8, 8, 8, 8, 8, 8, 8, 8, 8, 8, 8, 8, 8, 8, 8, 8, 8, 8, 8, 8, 8, 8, 8, 8, 8, 8, 8, 8, 8, 8, 8, 8, 8, 8, 8, 8, 8, 8, 8, 8, 8, 8, 8, 8, 8, 8, 8, 8, 8, 8, 8, 8, 8, 8, 8, 8, 8, 8, 8, 8, 8]) (.u (.conv .u8) (.o (.shr .u64) (.v 0) (.i 8))))))])))
 (.need (.o .le (.i 0) (.u (.conv .u8) (.v 0))) (.need (.o .lt (.u (.conv .u8) (.v 0)) (.u .slen (.s [0, 1, 2, 2, 3, 3, 3, 3, 4, 4, 4, 4, 4, 4, 4, 4, 5, 5, 5, 5, 5, 5, 5, 5, 5, 5, 5, 5, 5, 5, 5, 5, 6, 6, 6, 6, 6, 6, 6, 6, 6, 6, 6, 6, 6, 6, 6, 6, 6, 6, 6, 6, 6, 6, 6, 6, 6, 6, 6, 6, 6, 6, 6, 6, 7, 7, 7, 7, 7, 7, 7, 7, 7, 7, 7, 7, 7, 7, 7, 7, 7, 7, 7, 7, 7, 7, 7, 7, 7, 7, 7, 7, 7, 7, 7, 7, 7, 7, 7, 7, 7, 7, 7, 7, 7, 7, 7, 7, 7, 7, 7, 7, 7, 7, 7, 7, 7, 7, 7, 7, 7, 7, 7, 7, 7, 7, 7, 7, 8, 8, 8, 8, 8, 8, 8, 8, 8, 8, 8, 8, 8, 8, 8, 8, 8, 8, 8, 8, 8, 8, 8, 8, 8, 8, 8, 8, 8, 8, 8, 8, 8, 8, 8, 8, 8, 8, 8, 8, 8, 8, 8, 8, 8, 8, 8, 8, 8, 8, 8, 8, 8, 8, 8, 8, 8, 8, 8, 8, 8, 8, 8, 8, 8, 8, 8, 8, 8, 8, 8, 8, 8, 8, 8, 8, 8, 8, 8, 8, 8, 8, 8, 8, 8, 8, 8, 8, 8, 8, 8, 8, 8, 8, 8, 8, 8, 8, 8, 8, 8, 8, 8, 8, 8, 8, 8, 8, 8, 8, 8, 8, 8, 8, 8, 8, 8, 8, 8, 8, 8, 8, 8, 8, 8, 8, 8, 8]))) (.leaf [(.o (.add .i64) (.i 0) (.u (.conv .i64) (.o .sidx (.s [0, 1, 2, 2, 3, 3, 3, 3, 4, 4, 4, 4, 4, 4, 4, 4, 5, 5, 5, 5, 5, 5, 5, 5, 5, 5, 5, 5, 5, 5, 5, 5, 6, 6, 6, 6, 6, 6, 6, 6, 6, 6, 6, 6, 6, 6, 6, 6, 6, 6, 6, 6, 6, 6, 6, 6, 6, 6, 6, 6, 6, 6, 6, 6, 7, 7, 7, 7, 7, 7, 7, 7, 7, 7, 7, 7, 7, 7, 7, 7, 7, 7, 7, 7, 7, 7, 7, 7, 7, 7, 7, 7, 7, 7, 7, 7, 7, 7, 7, 7, 7, 7, 7, 7, 7, 7, 7, 7, 7, 7, 7, 7, 7, 7, 7, 7, 7, 7, 7, 7, 7, 7, 7, 7, 7, 7, 7, 7, 8, 8, 8, 8, 8, 8, 8, 8, 8, 8, 8, 8, 8, 8, 8, 8, 8, 8, 8, 8, 8, 8, 8, 8, 8, 8, 8, 8, 8, 8, 8, 8, 8, 8, 8, 8, 8, 8, 8, 8, 8, 8, 8, 8, 8, 8, 8, 8, 8, 8, 8, 8, 8, 8, 8, 8, 8, 8, 8, 8, 8, 8, 8, 8, 8, 8, 8, 8, 8, 8, 8, 8, 8, 8, 8, 8, 8, 8, 8, 8, 8, 8, 8, 8, 8, 8, 8, 8, 8, 8, 8, 8, 8, 8, 8, 8, 8, 8, 8, 8, 8, 8, 8, 8, 8, 8, 8, 8, 8, 8, 8, 8, 8, 8, 8, 8, 8, 8, 8, 8, 8, 8, 8, 8, 8, 8, 8, 8]) (.u (.conv .u8) (.v 0)))))]))))))
noncomputable def k_bits_Len64 : Known Tryd.prog := known mixedOk [] (by decide) [] plTypes plOk inFuncs insOk 6 ⟨68, [(.a (.ck (.int .u64)))], (.c (.a (.ck (.int .i64))))⟩ (fun args w => Tryd.call68 args w) tk_bits_Len64 (by kernel_rfl)
theorem k_bits_Len64_f : k_bits_Len64.con.f = 68 := rfl
theorem k_bits_Len64_F (l : List Sc) : k_bits_Len64.F l = if l.length = 1 then tk_bits_Len64.den (gam (P := Tryd.prog) []) l [] else none := rfl
def tk_strconv_small : T (List Ex) :=
 (.ite (.o .lt (.v 0) (.i 10))
 (.need (.o .le (.i 0) (.v 0)) (.need (.o .le (.v 0) (.o (.add .i64) (.v 0) (.i 1))) (.need (.o .le (.o (.add .i64) (.v 0) (.i 1)) (.u .slen (.s [48, 49, 50, 51, 52, 53, 54, 55, 56, 57, 97, 98, 99, 100, 101, 102, 103, 104, 105, 106, 107, 108, 109, 110, 111, 112, 113, 114, 115, 116, 117, 118, 119, 120, 121, 122]))) (.leaf [(.t .ssub (.s [48, 49, 50, 51, 52, 53, 54, 55, 56, 57, 97, 98, 99, 100, 101, 102, 103, 104, 105, 106, 107, 108, 109, 110, 111, 112, 113, 114, 115, 116, 117, 118, 119, 120, 121, 122]) (.v 0) (.o (.add .i64) (.v 0) (.i 1)))]))))
 (.need (.o .le (.i 0) (.o (.mul .i64) (.v 0) (.i 2))) (.need (.o .le (.o (.mul .i64) (.v 0) (.i 2)) (.o (.add .i64) (.o (.mul .i64) (.v 0) (.i 2)) (.i 2))) (.need (.o .le (.o (.add .i64) (.o (.mul .i64) (.v 0) (.i 2)) (.i 2)) (.u .slen (.s [48, 48, 48, 49, 48, 50, 48, 51, 48, 52, 48, 53, 48, 54, 48, 55, 48, 56, 48, 57, 49, 48, 49, 49, 49, 50, 49, 51, 49, 52, 49, 53, 49, 54, 49, 55, 49, 56, 49, 57, 50, 48, 50, 49, 50, 50, 50, 51, 50, 52, 50, 53, 50, 54, 50, 55, 50, 56, 50, 57, 51, 48, 51, 49, 51, 50, 51, 51, 51, 52, 51, 53, 51, 54, 51, 55, 51, 56, 51, 57, 52, 48, 52, 49, 52, 50, 52, 51, 52, 52, 52, 53, 52, 54, 52, 55, 52, 56, 52, 57, 53, 48, 53, 49, 53, 50, 53, 51, 53, 52, 53, 53, 53, 54, 53, 55, 53, 56, 53, 57, 54, 48, 54, 49, 54, 50, 54, 51, 54, 52, 54, 53, 54, 54, 54, 55, 54, 56, 54, 57, 55, 48, 55, 49, 55, 50, 55, 51, 55, 52, 55, 53, 55, 54, 55, 55, 55, 56, 55, 57, 56, 48, 56, 49, 56, 50, 56, 51, 56, 52, 56, 53, 56, 54, 56, 55, 56, 56, 56, 57, 57, 48, 57, 49, 57, 50, 57, 51, 57, 52, 57, 53, 57, 54, 57, 55, 57, 56, 57, 57]))) (.leaf [(.t .ssub (.s [48, 48, 48, 49, 48, 50, 48, 51, 48, 52, 48, 53, 48, 54, 48, 55, 48, 56, 48, 57, 49, 48, 49, 49, 49, 50, 49, 51, 49, 52, 49, 53, 49, 54, 49, 55, 49, 56, 49, 57, 50, 48, 50, 49, 50, 50, 50, 51, 50, 52, 50, 53, 50, 54, 50, 55, 50, 56, 50, 57, 51, 48, 51, 49, 51, 50, 51, 51, 51, 52, 51, 53, 51, 54, 51, 55, 51, 56, 51, 57, 52, 48, 52, 49, 52, 50, 52, 51, 52, 52, 52, 53, 52, 54, 52, 55, 52, 56, 52, 57, 53, 48, 53, 49, 53, 50, 53, 51, 53, 52, 53, 53, 53, 54, 53, 55, 53, 56, 53, 57, 54, 48, 54, 49, 54, 50, 54, 51, 54, 52, 54, 53, 54, 54, 54, 55, 54, 56, 54, 57, 55, 48, 55, 49, 55, 50, 55, 51, 55, 52, 55, 53, 55, 54, 55, 55, 55, 56, 55, 57, 56, 48, 56, 49, 56, 50, 56, 51, 56, 52, 56, 53, 56, 54, 56, 55, 56, 56, 56, 57, 57, 48, 57, 49, 57, 50, 57, 51, 57, 52, 57, 53, 57, 54, 57, 55, 57, 56, 57, 57]) (.o (.mul .i64) (.v 0) (.i 2)) (.o (.add .i64) (.o (.mul .i64) (.v 0) (.i 2)) (.i 2)))])))))
noncomputable def k_strconv_small : Known Tryd.prog := known mixedOk [] (by decide) [] plTypes plOk inFuncs insOk 6 ⟨69, [(.a (.ck (.int .i64)))], (.c (.a (.ck .str)))⟩ (fun args w => Tryd.call69 args w) tk_strconv_small (by kernel_rfl)
theorem k_strconv_small_f : k_strconv_small.con.f = 69 := rfl
theorem k_strconv_small_F (l : List Sc) : k_strconv_small.F l = if l.length = 1 then tk_strconv_small.den (gam (P := Tryd.prog) []) l [] else none := rfl
def tk_strconv_log10Pow2 : T (List Ex) :=
 (.leaf [(.o (.shr .i64) (.o (.mul .i64) (.v 0) (.i 78913)) (.i 18))])
noncomputable def k_strconv_log10Pow2 : Known Tryd.prog := known mixedOk [] (by decide) [] plTypes plOk inFuncs insOk 6 ⟨73, [(.a (.ck (.int .i64)))], (.c (.a (.ck (.int .i64))))⟩ (fun args w => Tryd.call73 args w) tk_strconv_log10Pow2 (by kernel_rfl)
theorem k_strconv_log10Pow2_f : k_strconv_log10Pow2.con.f = 73 := rfl
theorem k_strconv_log10Pow2_F (l : List Sc) : k_strconv_log10Pow2.F l = if l.length = 1 then tk_strconv_log10Pow2.den (gam (P := Tryd.prog) []) l [] else none := rfl
def tk_strconv_bool2_int_ : T (List Ex) :=
 (.ite (.v 0)
 (.leaf [(.i 1)])
 (.leaf [(.i 0)]))
noncomputable def k_strconv_bool2_int_ : Known Tryd.prog := known mixedOk [] (by decide) [] plTypes plOk inFuncs insOk 6 ⟨74, [(.a (.ck .bool))], (.c (.a (.ck (.int .i64))))⟩ (fun args w => Tryd.call74 args w) tk_strconv_bool2_int_ (by kernel_rfl)
theorem k_strconv_bool2_int__f : k_strconv_bool2_int_.con.f = 74 := rfl
theorem k_strconv_bool2_int__F (l : List Sc) : k_strconv_bool2_int_.F l = if l.length = 1 then tk_strconv_bool2_int_.den (gam (P := Tryd.prog) []) l [] else none := rfl
def tk_strconv_isPowerOfTwo : T (List Ex) :=
 (.leaf [(.o .eq (.o (.band .i64) (.v 0) (.o (.sub .i64) (.v 0) (.i 1))) (.i 0))])
noncomputable def k_strconv_isPowerOfTwo : Known Tryd.prog := known mixedOk [] (by decide) [] plTypes plOk inFuncs insOk 6 ⟨75, [(.a (.ck (.int .i64)))], (.c (.a (.ck .bool)))⟩ (fun args w => Tryd.call75 args w) tk_strconv_isPowerOfTwo (by kernel_rfl)
theorem k_strconv_isPowerOfTwo_f : k_strconv_isPowerOfTwo.con.f = 75 := rfl
theorem k_strconv_isPowerOfTwo_F (l : List Sc) : k_strconv_isPowerOfTwo.F l = if l.length = 1 then tk_strconv_isPowerOfTwo.den (gam (P := Tryd.prog) []) l [] else none := rfl
def tk_frac_Of : T (List Ex) :=
 (.ite (.o .eq (.v 1) (.i 0))
 (.leaf [(.i 0), (.i 0), (.b false)])
 (.call 34 [(.v 0)] 1
 (.call 34 [(.v 1)] 1
 (.call 33 [(.v 2), (.v 3)] 1
 (.call 34 [(.v 0)] 1
 (.need (.o .ne (.v 4) (.i 0)) (.call 34 [(.v 1)] 1
 (.need (.o .ne (.v 4) (.i 0)) (.call 35 [(.u .not (.o .beq (.o .lt (.v 0) (.i 0)) (.o .lt (.v 1) (.i 0)))), (.o (.quo .u64) (.v 5) (.v 4)), (.o (.quo .u64) (.v 6) (.v 4))] 3
 (.leaf [(.v 7), (.v 8), (.v 9)]))))))))))
noncomputable def k_frac_Of : Known Tryd.prog := known mixedOk [k_frac_size, k_frac_gcd, k_frac_made] (by decide) [] plTypes plOk inFuncs insOk 6 ⟨10, [(.a (.ck (.int .i64))), (.a (.ck (.int .i64)))], (.t [(.g [(.ck (.int .i64)), (.ck (.int .i64))]), (.a (.ck .bool))])⟩ (fun args w => Tryd.call10 args w) tk_frac_Of (by kernel_rfl)
theorem k_frac_Of_f : k_frac_Of.con.f = 10 := rfl
theorem k_frac_Of_F (l : List Sc) : k_frac_Of.F l = if l.length = 2 then tk_frac_Of.den (gam (P := Tryd.prog) [k_frac_size, k_frac_gcd, k_frac_made]) l [] else none := rfl
def tk_frac_Valid : T (List Ex) :=
 (.ite (.o .le (.i 1) (.v 1))
 (.ite (.o .le (.v 1) (.i 1000000000000000))
 (.call 34 [(.v 0)] 1
 (.ite (.o .le (.v 2) (.i 4611686018427387904))
 (.call 34 [(.v 0)] 1
 (.call 33 [(.v 3), (.u (.conv .u64) (.v 1))] 1
 (.leaf [(.o .eq (.v 4) (.i 1))])))
 (.leaf [(.b false)])))
 (.leaf [(.b false)]))
 (.leaf [(.b false)]))
noncomputable def k_frac_Valid : Known Tryd.prog := known mixedOk [k_frac_size, k_frac_gcd] (by decide) [] plTypes plOk inFuncs insOk 6 ⟨12, [(.g [(.ck (.int .i64)), (.ck (.int .i64))])], (.c (.a (.ck .bool)))⟩ (fun args w => Tryd.call12 args w) tk_frac_Valid (by kernel_rfl)
theorem k_frac_Valid_f : k_frac_Valid.con.f = 12 := rfl
theorem k_frac_Valid_F (l : List Sc) : k_frac_Valid.F l = if l.length = 2 then tk_frac_Valid.den (gam (P := Tryd.prog) [k_frac_size, k_frac_gcd]) l [] else none := rfl
def tk_frac_Text : T (List Ex) :=
 (.call 12 [(.v 0), (.v 1)] 1
 (.ite (.u .not (.v 2))
 (.leaf [(.s [])])
 (.call 39 [(.v 0)] 1
 (.ite (.o .ne (.v 1) (.i 1))
 (.call 39 [(.v 1)] 1
 (.need (.o .le (.u .slen (.o .cat (.s [47]) (.v 4))) (.i 9223372036854775807)) (.need (.o .le (.u .slen (.o .cat (.v 3) (.o .cat (.s [47]) (.v 4)))) (.i 9223372036854775807)) (.leaf [(.o .cat (.v 3) (.o .cat (.s [47]) (.v 4)))]))))
 (.leaf [(.v 3)])))))
noncomputable def k_frac_Text : Known Tryd.prog := known mixedOk [k_frac_Valid, k_num_Text] (by decide) [] plTypes plOk inFuncs insOk 6 ⟨15, [(.g [(.ck (.int .i64)), (.ck (.int .i64))])], (.c (.a (.ck .str)))⟩ (fun args w => Tryd.call15 args w) tk_frac_Text (by kernel_rfl)
theorem k_frac_Text_f : k_frac_Text.con.f = 15 := rfl
theorem k_frac_Text_F (l : List Sc) : k_frac_Text.F l = if l.length = 2 then tk_frac_Text.den (gam (P := Tryd.prog) [k_frac_Valid, k_num_Text]) l [] else none := rfl
def tk_frac_signed : T (List Ex) :=
 (.ite (.o .beq (.v 0) (.v 3))
 (.call 55 [(.v 1), (.v 2), (.v 4), (.v 5)] 2
 (.leaf [(.v 0), (.v 6), (.v 7)]))
 (.call 56 [(.v 1), (.v 2), (.v 4), (.v 5)] 3
 (.leaf [(.u .not (.o .beq (.v 0) (.v 8))), (.v 6), (.v 7)])))
noncomputable def k_frac_signed : Known Tryd.prog := known mixedOk [k_frac_wide_plus, k_frac_wide_minus] (by decide) [] plTypes plOk inFuncs insOk 6 ⟨42, [(.a (.ck .bool)), (.g [(.ck (.int .u64)), (.ck (.int .u64))]), (.a (.ck .bool)), (.g [(.ck (.int .u64)), (.ck (.int .u64))])], (.t [(.a (.ck .bool)), (.g [(.ck (.int .u64)), (.ck (.int .u64))])])⟩ (fun args w => Tryd.call42 args w) tk_frac_signed (by kernel_rfl)
theorem k_frac_signed_f : k_frac_signed.con.f = 42 := rfl
theorem k_frac_signed_F (l : List Sc) : k_frac_signed.F l = if l.length = 6 then tk_frac_signed.den (gam (P := Tryd.prog) [k_frac_wide_plus, k_frac_wide_minus]) l [] else none := rfl
def tk_frac_times : T (List Ex) :=
 (.call 57 [(.v 0), (.v 1)] 2
 (.leaf [(.v 2), (.v 3)]))
noncomputable def k_frac_times : Known Tryd.prog := known mixedOk [k_bits_Mul64] (by decide) [] plTypes plOk inFuncs insOk 6 ⟨43, [(.a (.ck (.int .u64))), (.a (.ck (.int .u64)))], (.c (.g [(.ck (.int .u64)), (.ck (.int .u64))]))⟩ (fun args w => Tryd.call43 args w) tk_frac_times (by kernel_rfl)
theorem k_frac_times_f : k_frac_times.con.f = 43 := rfl
theorem k_frac_times_F (l : List Sc) : k_frac_times.F l = if l.length = 2 then tk_frac_times.den (gam (P := Tryd.prog) [k_bits_Mul64]) l [] else none := rfl
def tk_simulatorref02_Divide : T (List Ex) :=
 (.loop [(.i 127), (.i 0), (.i 0), (.i 0), (.i 0)]
 (.ite (.o .le (.i 0) (.v 4))
 (.call 48 [(.v 5), (.v 6), (.v 5), (.v 6)] 2
 (.call 48 [(.v 7), (.v 8), (.v 7), (.v 8)] 2
 (.call 59 [(.v 0), (.v 1), (.v 4)] 1
 (.call 48 [(.v 11), (.v 12), (.i 0), (.v 13)] 2
 (.call 60 [(.v 14), (.v 15), (.v 2), (.v 3)] 1
 (.ite (.u .not (.v 16))
 (.call 61 [(.v 14), (.v 15), (.v 2), (.v 3)] 2
 (.next 0 [(.o (.sub .i64) (.v 4) (.i 1)), (.v 9), (.o (.add .u64) (.v 10) (.i 1)), (.v 17), (.v 18)]))
 (.next 0 [(.o (.sub .i64) (.v 4) (.i 1)), (.v 9), (.v 10), (.v 14), (.v 15)])))))))
 (.leaf [(.v 5), (.v 6), (.v 7), (.v 8)])))
noncomputable def k_simulatorref02_Divide : Known Tryd.prog := known mixedOk [k_simulatorref02_Plus, k_simulatorref02_bit, k_simulatorref02_Less, k_simulatorref02_Minus] (by decide) [⟨4600003, [(8, 0)], [11, 12, 15, 16, 17, 18, 19, 20, 21, 22, 23, 24, 25, 26, 27, 28, 29, 30, 31, 32, 33, 34, 35, 36, 13, 14], [(4, (0, 0)), (4, (1, 0)), (5, (0, 0)), (5, (1, 0))], []⟩] plTypes plOk inFuncs insOk 6 ⟨46, [(.g [(.ck (.int .u64)), (.ck (.int .u64))]), (.g [(.ck (.int .u64)), (.ck (.int .u64))])], (.t [(.g [(.ck (.int .u64)), (.ck (.int .u64))]), (.g [(.ck (.int .u64)), (.ck (.int .u64))])])⟩ (fun args w => Tryd.call46 args w) tk_simulatorref02_Divide (by kernel_rfl)
theorem k_simulatorref02_Divide_f : k_simulatorref02_Divide.con.f = 46 := rfl
theorem k_simulatorref02_Divide_F (l : List Sc) : k_simulatorref02_Divide.F l = if l.length = 4 then tk_simulatorref02_Divide.den (gam (P := Tryd.prog) [k_simulatorref02_Plus, k_simulatorref02_bit, k_simulatorref02_Less, k_simulatorref02_Minus]) l [] else none := rfl
def tk_simulatorref02_Times : T (List Ex) :=
 (.call 62 [(.i 0), (.v 0), (.v 1)] 2
 (.leaf [(.v 2), (.v 3)]))
noncomputable def k_simulatorref02_Times : Known Tryd.prog := known mixedOk [k_simulatorref02_Scale] (by decide) [] plTypes plOk inFuncs insOk 6 ⟨47, [(.a (.ck (.int .u64))), (.a (.ck (.int .u64)))], (.c (.g [(.ck (.int .u64)), (.ck (.int .u64))]))⟩ (fun args w => Tryd.call47 args w) tk_simulatorref02_Times (by kernel_rfl)
theorem k_simulatorref02_Times_f : k_simulatorref02_Times.con.f = 47 := rfl
theorem k_simulatorref02_Times_F (l : List Sc) : k_simulatorref02_Times.F l = if l.length = 2 then tk_simulatorref02_Times.den (gam (P := Tryd.prog) [k_simulatorref02_Scale]) l [] else none := rfl
def tk_frac_product : T (List Ex) :=
 (.call 33 [(.v 1), (.v 4)] 1
 (.call 33 [(.v 3), (.v 2)] 1
 (.need (.o .ne (.v 5) (.i 0)) (.need (.o .ne (.v 6) (.i 0)) (.call 43 [(.o (.quo .u64) (.v 1) (.v 5)), (.o (.quo .u64) (.v 3) (.v 6))] 2
 (.need (.o .ne (.v 6) (.i 0)) (.need (.o .ne (.v 5) (.i 0)) (.call 43 [(.o (.quo .u64) (.v 2) (.v 6)), (.o (.quo .u64) (.v 4) (.v 5))] 2
 (.ite (.o .ne (.v 7) (.i 0))
 (.leaf [(.i 0), (.i 0), (.b false)])
 (.ite (.o .ne (.v 9) (.i 0))
 (.leaf [(.i 0), (.i 0), (.b false)])
 (.ite (.v 0)
 (.call 35 [(.o .ne (.v 8) (.i 0)), (.v 8), (.v 10)] 3
 (.leaf [(.v 11), (.v 12), (.v 13)]))
 (.call 35 [(.b false), (.v 8), (.v 10)] 3
 (.leaf [(.v 11), (.v 12), (.v 13)])))))))))))))
noncomputable def k_frac_product : Known Tryd.prog := known mixedOk [k_frac_gcd, k_frac_times, k_frac_made] (by decide) [] plTypes plOk inFuncs insOk 6 ⟨49, [(.a (.ck .bool)), (.a (.ck (.int .u64))), (.a (.ck (.int .u64))), (.a (.ck (.int .u64))), (.a (.ck (.int .u64)))], (.t [(.g [(.ck (.int .i64)), (.ck (.int .i64))]), (.a (.ck .bool))])⟩ (fun args w => Tryd.call49 args w) tk_frac_product (by kernel_rfl)
theorem k_frac_product_f : k_frac_product.con.f = 49 := rfl
theorem k_frac_product_F (l : List Sc) : k_frac_product.F l = if l.length = 5 then tk_frac_product.den (gam (P := Tryd.prog) [k_frac_gcd, k_frac_times, k_frac_made]) l [] else none := rfl
def tk_simulatorref02_Both : T (List Ex) :=
 (.ite (.o .beq (.v 0) (.v 3))
 (.call 48 [(.v 1), (.v 2), (.v 4), (.v 5)] 2
 (.leaf [(.v 0), (.v 6), (.v 7)]))
 (.call 60 [(.v 1), (.v 2), (.v 4), (.v 5)] 1
 (.ite (.v 6)
 (.call 61 [(.v 4), (.v 5), (.v 1), (.v 2)] 2
 (.leaf [(.v 3), (.v 7), (.v 8)]))
 (.call 61 [(.v 1), (.v 2), (.v 4), (.v 5)] 2
 (.leaf [(.v 0), (.v 7), (.v 8)])))))
noncomputable def k_simulatorref02_Both : Known Tryd.prog := known mixedOk [k_simulatorref02_Plus, k_simulatorref02_Less, k_simulatorref02_Minus] (by decide) [] plTypes plOk inFuncs insOk 6 ⟨50, [(.g [(.ck .bool), (.ck (.int .u64)), (.ck (.int .u64))]), (.g [(.ck .bool), (.ck (.int .u64)), (.ck (.int .u64))])], (.c (.g [(.ck .bool), (.ck (.int .u64)), (.ck (.int .u64))]))⟩ (fun args w => Tryd.call50 args w) tk_simulatorref02_Both (by kernel_rfl)
theorem k_simulatorref02_Both_f : k_simulatorref02_Both.con.f = 50 := rfl
theorem k_simulatorref02_Both_F (l : List Sc) : k_simulatorref02_Both.F l = if l.length = 6 then tk_simulatorref02_Both.den (gam (P := Tryd.prog) [k_simulatorref02_Plus, k_simulatorref02_Less, k_simulatorref02_Minus]) l [] else none := rfl
def tk_simulatorref02_Product : T (List Ex) :=
 (.call 37 [(.v 0)] 1
 (.call 37 [(.v 1)] 1
 (.call 47 [(.v 2), (.v 3)] 2
 (.leaf [(.u .not (.o .beq (.o .lt (.v 0) (.i 0)) (.o .lt (.v 1) (.i 0)))), (.v 4), (.v 5)]))))
noncomputable def k_simulatorref02_Product : Known Tryd.prog := known mixedOk [k_simulatorref02_Size, k_simulatorref02_Times] (by decide) [] plTypes plOk inFuncs insOk 6 ⟨51, [(.a (.ck (.int .i64))), (.a (.ck (.int .i64)))], (.c (.g [(.ck .bool), (.ck (.int .u64)), (.ck (.int .u64))]))⟩ (fun args w => Tryd.call51 args w) tk_simulatorref02_Product (by kernel_rfl)
theorem k_simulatorref02_Product_f : k_simulatorref02_Product.con.f = 51 := rfl
theorem k_simulatorref02_Product_F (l : List Sc) : k_simulatorref02_Product.F l = if l.length = 2 then tk_simulatorref02_Product.den (gam (P := Tryd.prog) [k_simulatorref02_Size, k_simulatorref02_Times]) l [] else none := rfl
def tk_bits_LeadingZeros64 : T (List Ex) :=
 (.call 68 [(.v 0)] 1
 (.leaf [(.o (.sub .i64) (.i 64) (.v 1))]))
noncomputable def k_bits_LeadingZeros64 : Known Tryd.prog := known mixedOk [k_bits_Len64] (by decide) [] plTypes plOk inFuncs insOk 6 ⟨66, [(.a (.ck (.int .u64)))], (.c (.a (.ck (.int .i64))))⟩ (fun args w => Tryd.call66 args w) tk_bits_LeadingZeros64 (by kernel_rfl)
theorem k_bits_LeadingZeros64_f : k_bits_LeadingZeros64.con.f = 66 := rfl
theorem k_bits_LeadingZeros64_F (l : List Sc) : k_bits_LeadingZeros64.F l = if l.length = 1 then tk_bits_LeadingZeros64.den (gam (P := Tryd.prog) [k_bits_Len64]) l [] else none := rfl
def tk_frac_Cmp : T (List Ex) :=
 (.call 12 [(.v 0), (.v 1)] 1
 (.ite (.u .not (.v 4))
 (.call 12 [(.v 2), (.v 3)] 1
 (.ite (.u .not (.v 5))
 (.call 34 [(.i 0)] 1
 (.call 43 [(.v 6), (.i 1)] 2
 (.call 34 [(.i 0)] 1
 (.call 43 [(.v 9), (.i 1)] 2
 (.call 42 [(.b false), (.v 7), (.v 8), (.b true), (.v 10), (.v 11)] 3
 (.ite (.o .and (.o .eq (.v 13) (.i 0)) (.o .and (.o .eq (.v 14) (.i 0)) (.b true)))
 (.leaf [(.i 0)])
 (.ite (.v 12)
 (.leaf [(.i (-1))])
 (.leaf [(.i 1)]))))))))
 (.call 34 [(.i 0)] 1
 (.call 43 [(.v 6), (.u (.conv .u64) (.v 3))] 2
 (.call 34 [(.v 2)] 1
 (.call 43 [(.v 9), (.i 1)] 2
 (.call 42 [(.b false), (.v 7), (.v 8), (.o .le (.i 0) (.v 2)), (.v 10), (.v 11)] 3
 (.ite (.o .and (.o .eq (.v 13) (.i 0)) (.o .and (.o .eq (.v 14) (.i 0)) (.b true)))
 (.leaf [(.i 0)])
 (.ite (.v 12)
 (.leaf [(.i (-1))])
 (.leaf [(.i 1)]))))))))))
 (.call 12 [(.v 2), (.v 3)] 1
 (.ite (.u .not (.v 5))
 (.call 34 [(.v 0)] 1
 (.call 43 [(.v 6), (.i 1)] 2
 (.call 34 [(.i 0)] 1
 (.call 43 [(.v 9), (.u (.conv .u64) (.v 1))] 2
 (.call 42 [(.o .lt (.v 0) (.i 0)), (.v 7), (.v 8), (.b true), (.v 10), (.v 11)] 3
 (.ite (.o .and (.o .eq (.v 13) (.i 0)) (.o .and (.o .eq (.v 14) (.i 0)) (.b true)))
 (.leaf [(.i 0)])
 (.ite (.v 12)
 (.leaf [(.i (-1))])
 (.leaf [(.i 1)]))))))))
 (.call 34 [(.v 0)] 1
 (.call 43 [(.v 6), (.u (.conv .u64) (.v 3))] 2
 (.call 34 [(.v 2)] 1
 (.call 43 [(.v 9), (.u (.conv .u64) (.v 1))] 2
 (.call 42 [(.o .lt (.v 0) (.i 0)), (.v 7), (.v 8), (.o .le (.i 0) (.v 2)), (.v 10), (.v 11)] 3
 (.ite (.o .and (.o .eq (.v 13) (.i 0)) (.o .and (.o .eq (.v 14) (.i 0)) (.b true)))
 (.leaf [(.i 0)])
 (.ite (.v 12)
 (.leaf [(.i (-1))])
 (.leaf [(.i 1)]))))))))))))
noncomputable def k_frac_Cmp : Known Tryd.prog := known mixedOk [k_frac_Valid, k_frac_size, k_frac_times, k_frac_signed] (by decide) [] plTypes plOk inFuncs insOk 6 ⟨20, [(.g [(.ck (.int .i64)), (.ck (.int .i64))]), (.g [(.ck (.int .i64)), (.ck (.int .i64))])], (.c (.a (.ck (.int .i64))))⟩ (fun args w => Tryd.call20 args w) tk_frac_Cmp (by kernel_rfl)
theorem k_frac_Cmp_f : k_frac_Cmp.con.f = 20 := rfl
theorem k_frac_Cmp_F (l : List Sc) : k_frac_Cmp.F l = if l.length = 4 then tk_frac_Cmp.den (gam (P := Tryd.prog) [k_frac_Valid, k_frac_size, k_frac_times, k_frac_signed]) l [] else none := rfl
def tk_frac_Mul : T (List Ex) :=
 (.call 12 [(.v 0), (.v 1)] 1
 (.ite (.u .not (.v 4))
 (.leaf [(.i 0), (.i 0), (.b false)])
 (.call 12 [(.v 2), (.v 3)] 1
 (.ite (.u .not (.v 5))
 (.leaf [(.i 0), (.i 0), (.b false)])
 (.call 34 [(.v 0)] 1
 (.call 34 [(.v 2)] 1
 (.call 49 [(.u .not (.o .beq (.o .lt (.v 0) (.i 0)) (.o .lt (.v 2) (.i 0)))), (.v 6), (.u (.conv .u64) (.v 1)), (.v 7), (.u (.conv .u64) (.v 3))] 3
 (.leaf [(.v 8), (.v 9), (.v 10)]))))))))
noncomputable def k_frac_Mul : Known Tryd.prog := known mixedOk [k_frac_Valid, k_frac_size, k_frac_product] (by decide) [] plTypes plOk inFuncs insOk 6 ⟨25, [(.g [(.ck (.int .i64)), (.ck (.int .i64))]), (.g [(.ck (.int .i64)), (.ck (.int .i64))])], (.t [(.g [(.ck (.int .i64)), (.ck (.int .i64))]), (.a (.ck .bool))])⟩ (fun args w => Tryd.call25 args w) tk_frac_Mul (by kernel_rfl)
theorem k_frac_Mul_f : k_frac_Mul.con.f = 25 := rfl
theorem k_frac_Mul_F (l : List Sc) : k_frac_Mul.F l = if l.length = 4 then tk_frac_Mul.den (gam (P := Tryd.prog) [k_frac_Valid, k_frac_size, k_frac_product]) l [] else none := rfl
def tk_frac_Div : T (List Ex) :=
 (.call 12 [(.v 0), (.v 1)] 1
 (.ite (.u .not (.v 4))
 (.leaf [(.i 0), (.i 0), (.b false)])
 (.call 12 [(.v 2), (.v 3)] 1
 (.ite (.u .not (.v 5))
 (.leaf [(.i 0), (.i 0), (.b false)])
 (.ite (.o .eq (.v 2) (.i 0))
 (.leaf [(.i 0), (.i 0), (.b false)])
 (.call 34 [(.v 0)] 1
 (.call 34 [(.v 2)] 1
 (.call 49 [(.u .not (.o .beq (.o .lt (.v 0) (.i 0)) (.o .lt (.v 2) (.i 0)))), (.v 6), (.u (.conv .u64) (.v 1)), (.u (.conv .u64) (.v 3)), (.v 7)] 3
 (.leaf [(.v 8), (.v 9), (.v 10)])))))))))
noncomputable def k_frac_Div : Known Tryd.prog := known mixedOk [k_frac_Valid, k_frac_size, k_frac_product] (by decide) [] plTypes plOk inFuncs insOk 6 ⟨30, [(.g [(.ck (.int .i64)), (.ck (.int .i64))]), (.g [(.ck (.int .i64)), (.ck (.int .i64))])], (.t [(.g [(.ck (.int .i64)), (.ck (.int .i64))]), (.a (.ck .bool))])⟩ (fun args w => Tryd.call30 args w) tk_frac_Div (by kernel_rfl)
theorem k_frac_Div_f : k_frac_Div.con.f = 30 := rfl
theorem k_frac_Div_F (l : List Sc) : k_frac_Div.F l = if l.length = 4 then tk_frac_Div.den (gam (P := Tryd.prog) [k_frac_Valid, k_frac_size, k_frac_product]) l [] else none := rfl
def tk_simulatorref02_common : T (List Ex) :=
 (.loop [(.v 0), (.v 1), (.v 2), (.v 3)]
 (.ite (.u .not (.o .and (.o .eq (.v 6) (.i 0)) (.o .and (.o .eq (.v 7) (.i 0)) (.b true))))
 (.call 46 [(.v 4), (.v 5), (.v 6), (.v 7)] 4
 (.next 0 [(.v 6), (.v 7), (.v 10), (.v 11)]))
 (.leaf [(.v 4), (.v 5)])))
noncomputable def k_simulatorref02_common : Known Tryd.prog := known mixedOk [k_simulatorref02_Divide] (by decide) [⟨3800001, [], [7, 8, 9, 11, 12, 13, 10, 14, 15, 5, 6, 16, 17], [(0, (0, 0)), (0, (1, 0)), (1, (0, 0)), (1, (1, 0))], []⟩] plTypes plOk inFuncs insOk 6 ⟨38, [(.g [(.ck (.int .u64)), (.ck (.int .u64))]), (.g [(.ck (.int .u64)), (.ck (.int .u64))])], (.c (.g [(.ck (.int .u64)), (.ck (.int .u64))]))⟩ (fun args w => Tryd.call38 args w) tk_simulatorref02_common (by kernel_rfl)
theorem k_simulatorref02_common_f : k_simulatorref02_common.con.f = 38 := rfl
theorem k_simulatorref02_common_F (l : List Sc) : k_simulatorref02_common.F l = if l.length = 4 then tk_simulatorref02_common.den (gam (P := Tryd.prog) [k_simulatorref02_Divide]) l [] else none := rfl
def tk_bits_Div64 : T (List Ex) :=
 (.ite (.o .eq (.v 2) (.i 0))
 (.fail "op")
 (.ite (.o .le (.v 2) (.v 0))
 (.fail "op")
 (.ite (.o .eq (.v 0) (.i 0))
 (.need (.o .ne (.v 2) (.i 0)) (.need (.o .ne (.v 2) (.i 0)) (.leaf [(.o (.quo .u64) (.v 1) (.v 2)), (.o (.rem .u64) (.v 1) (.v 2))])))
 (.call 66 [(.v 2)] 1
 (.need (.o .le (.i 0) (.u (.conv .u64) (.v 3))) (.need (.o .le (.i 0) (.u (.conv .u64) (.v 3))) (.need (.o .le (.i 0) (.o (.sub .u64) (.i 64) (.u (.conv .u64) (.v 3)))) (.need (.o .le (.i 0) (.u (.conv .u64) (.v 3))) (.need (.o .ne (.o (.shr .u64) (.o (.shl .u64) (.v 2) (.u (.conv .u64) (.v 3))) (.i 32)) (.i 0)) (.loop [(.o (.quo .u64) (.o (.bor .u64) (.o (.shl .u64) (.v 0) (.u (.conv .u64) (.v 3))) (.o (.shr .u64) (.v 1) (.o (.sub .u64) (.i 64) (.u (.conv .u64) (.v 3))))) (.o (.shr .u64) (.o (.shl .u64) (.v 2) (.u (.conv .u64) (.v 3))) (.i 32))), (.o (.sub .u64) (.o (.bor .u64) (.o (.shl .u64) (.v 0) (.u (.conv .u64) (.v 3))) (.o (.shr .u64) (.v 1) (.o (.sub .u64) (.i 64) (.u (.conv .u64) (.v 3))))) (.o (.mul .u64) (.o (.quo .u64) (.o (.bor .u64) (.o (.shl .u64) (.v 0) (.u (.conv .u64) (.v 3))) (.o (.shr .u64) (.v 1) (.o (.sub .u64) (.i 64) (.u (.conv .u64) (.v 3))))) (.o (.shr .u64) (.o (.shl .u64) (.v 2) (.u (.conv .u64) (.v 3))) (.i 32))) (.o (.shr .u64) (.o (.shl .u64) (.v 2) (.u (.conv .u64) (.v 3))) (.i 32))))]
 (.ite (.o .le (.i 4294967296) (.v 4))
 (.ite (.o .le (.i 4294967296) (.o (.add .u64) (.v 5) (.o (.shr .u64) (.o (.shl .u64) (.v 2) (.u (.conv .u64) (.v 3))) (.i 32))))
 (.need (.o .ne (.o (.shr .u64) (.o (.shl .u64) (.v 2) (.u (.conv .u64) (.v 3))) (.i 32)) (.i 0)) (.loop [(.o (.quo .u64) (.o (.sub .u64) (.o (.add .u64) (.o (.mul .u64) (.o (.bor .u64) (.o (.shl .u64) (.v 0) (.u (.conv .u64) (.v 3))) (.o (.shr .u64) (.v 1) (.o (.sub .u64) (.i 64) (.u (.conv .u64) (.v 3))))) (.i 4294967296)) (.o (.shr .u64) (.o (.shl .u64) (.v 1) (.u (.conv .u64) (.v 3))) (.i 32))) (.o (.mul .u64) (.o (.sub .u64) (.v 4) (.i 1)) (.o (.shl .u64) (.v 2) (.u (.conv .u64) (.v 3))))) (.o (.shr .u64) (.o (.shl .u64) (.v 2) (.u (.conv .u64) (.v 3))) (.i 32))), (.o (.sub .u64) (.o (.sub .u64) (.o (.add .u64) (.o (.mul .u64) (.o (.bor .u64) (.o (.shl .u64) (.v 0) (.u (.conv .u64) (.v 3))) (.o (.shr .u64) (.v 1) (.o (.sub .u64) (.i 64) (.u (.conv .u64) (.v 3))))) (.i 4294967296)) (.o (.shr .u64) (.o (.shl .u64) (.v 1) (.u (.conv .u64) (.v 3))) (.i 32))) (.o (.mul .u64) (.o (.sub .u64) (.v 4) (.i 1)) (.o (.shl .u64) (.v 2) (.u (.conv .u64) (.v 3))))) (.o (.mul .u64) (.o (.quo .u64) (.o (.sub .u64) (.o (.add .u64) (.o (.mul .u64) (.o (.bor .u64) (.o (.shl .u64) (.v 0) (.u (.conv .u64) (.v 3))) (.o (.shr .u64) (.v 1) (.o (.sub .u64) (.i 64) (.u (.conv .u64) (.v 3))))) (.i 4294967296)) (.o (.shr .u64) (.o (.shl .u64) (.v 1) (.u (.conv .u64) (.v 3))) (.i 32))) (.o (.mul .u64) (.o (.sub .u64) (.v 4) (.i 1)) (.o (.shl .u64) (.v 2) (.u (.conv .u64) (.v 3))))) (.o (.shr .u64) (.o (.shl .u64) (.v 2) (.u (.conv .u64) (.v 3))) (.i 32))) (.o (.shr .u64) (.o (.shl .u64) (.v 2) (.u (.conv .u64) (.v 3))) (.i 32))))]
 (.ite (.o .le (.i 4294967296) (.v 6))
 (.ite (.o .le (.i 4294967296) (.o (.add .u64) (.v 7) (.o (.shr .u64) (.o (.shl .u64) (.v 2) (.u (.conv .u64) (.v 3))) (.i 32))))
 (.need (.o .le (.i 0) (.u (.conv .u64) (.v 3))) (.leaf [(.o (.add .u64) (.o (.mul .u64) (.o (.sub .u64) (.v 4) (.i 1)) (.i 4294967296)) (.o (.sub .u64) (.v 6) (.i 1))), (.o (.shr .u64) (.o (.sub .u64) (.o (.add .u64) (.o (.mul .u64) (.o (.sub .u64) (.o (.add .u64) (.o (.mul .u64) (.o (.bor .u64) (.o (.shl .u64) (.v 0) (.u (.conv .u64) (.v 3))) (.o (.shr .u64) (.v 1) (.o (.sub .u64) (.i 64) (.u (.conv .u64) (.v 3))))) (.i 4294967296)) (.o (.shr .u64) (.o (.shl .u64) (.v 1) (.u (.conv .u64) (.v 3))) (.i 32))) (.o (.mul .u64) (.o (.sub .u64) (.v 4) (.i 1)) (.o (.shl .u64) (.v 2) (.u (.conv .u64) (.v 3))))) (.i 4294967296)) (.o (.band .u64) (.o (.shl .u64) (.v 1) (.u (.conv .u64) (.v 3))) (.i 4294967295))) (.o (.mul .u64) (.o (.sub .u64) (.v 6) (.i 1)) (.o (.shl .u64) (.v 2) (.u (.conv .u64) (.v 3))))) (.u (.conv .u64) (.v 3)))]))
 (.next 1 [(.o (.sub .u64) (.v 6) (.i 1)), (.o (.add .u64) (.v 7) (.o (.shr .u64) (.o (.shl .u64) (.v 2) (.u (.conv .u64) (.v 3))) (.i 32)))]))
 (.ite (.o .lt (.o (.add .u64) (.o (.mul .u64) (.i 4294967296) (.v 7)) (.o (.band .u64) (.o (.shl .u64) (.v 1) (.u (.conv .u64) (.v 3))) (.i 4294967295))) (.o (.mul .u64) (.v 6) (.o (.band .u64) (.o (.shl .u64) (.v 2) (.u (.conv .u64) (.v 3))) (.i 4294967295))))
 (.ite (.o .le (.i 4294967296) (.o (.add .u64) (.v 7) (.o (.shr .u64) (.o (.shl .u64) (.v 2) (.u (.conv .u64) (.v 3))) (.i 32))))
 (.need (.o .le (.i 0) (.u (.conv .u64) (.v 3))) (.leaf [(.o (.add .u64) (.o (.mul .u64) (.o (.sub .u64) (.v 4) (.i 1)) (.i 4294967296)) (.o (.sub .u64) (.v 6) (.i 1))), (.o (.shr .u64) (.o (.sub .u64) (.o (.add .u64) (.o (.mul .u64) (.o (.sub .u64) (.o (.add .u64) (.o (.mul .u64) (.o (.bor .u64) (.o (.shl .u64) (.v 0) (.u (.conv .u64) (.v 3))) (.o (.shr .u64) (.v 1) (.o (.sub .u64) (.i 64) (.u (.conv .u64) (.v 3))))) (.i 4294967296)) (.o (.shr .u64) (.o (.shl .u64) (.v 1) (.u (.conv .u64) (.v 3))) (.i 32))) (.o (.mul .u64) (.o (.sub .u64) (.v 4) (.i 1)) (.o (.shl .u64) (.v 2) (.u (.conv .u64) (.v 3))))) (.i 4294967296)) (.o (.band .u64) (.o (.shl .u64) (.v 1) (.u (.conv .u64) (.v 3))) (.i 4294967295))) (.o (.mul .u64) (.o (.sub .u64) (.v 6) (.i 1)) (.o (.shl .u64) (.v 2) (.u (.conv .u64) (.v 3))))) (.u (.conv .u64) (.v 3)))]))
 (.next 1 [(.o (.sub .u64) (.v 6) (.i 1)), (.o (.add .u64) (.v 7) (.o (.shr .u64) (.o (.shl .u64) (.v 2) (.u (.conv .u64) (.v 3))) (.i 32)))]))
 (.need (.o .le (.i 0) (.u (.conv .u64) (.v 3))) (.leaf [(.o (.add .u64) (.o (.mul .u64) (.o (.sub .u64) (.v 4) (.i 1)) (.i 4294967296)) (.v 6)), (.o (.shr .u64) (.o (.sub .u64) (.o (.add .u64) (.o (.mul .u64) (.o (.sub .u64) (.o (.add .u64) (.o (.mul .u64) (.o (.bor .u64) (.o (.shl .u64) (.v 0) (.u (.conv .u64) (.v 3))) (.o (.shr .u64) (.v 1) (.o (.sub .u64) (.i 64) (.u (.conv .u64) (.v 3))))) (.i 4294967296)) (.o (.shr .u64) (.o (.shl .u64) (.v 1) (.u (.conv .u64) (.v 3))) (.i 32))) (.o (.mul .u64) (.o (.sub .u64) (.v 4) (.i 1)) (.o (.shl .u64) (.v 2) (.u (.conv .u64) (.v 3))))) (.i 4294967296)) (.o (.band .u64) (.o (.shl .u64) (.v 1) (.u (.conv .u64) (.v 3))) (.i 4294967295))) (.o (.mul .u64) (.v 6) (.o (.shl .u64) (.v 2) (.u (.conv .u64) (.v 3))))) (.u (.conv .u64) (.v 3)))]))))))
 (.next 0 [(.o (.sub .u64) (.v 4) (.i 1)), (.o (.add .u64) (.v 5) (.o (.shr .u64) (.o (.shl .u64) (.v 2) (.u (.conv .u64) (.v 3))) (.i 32)))]))
 (.ite (.o .lt (.o (.add .u64) (.o (.mul .u64) (.i 4294967296) (.v 5)) (.o (.shr .u64) (.o (.shl .u64) (.v 1) (.u (.conv .u64) (.v 3))) (.i 32))) (.o (.mul .u64) (.v 4) (.o (.band .u64) (.o (.shl .u64) (.v 2) (.u (.conv .u64) (.v 3))) (.i 4294967295))))
 (.ite (.o .le (.i 4294967296) (.o (.add .u64) (.v 5) (.o (.shr .u64) (.o (.shl .u64) (.v 2) (.u (.conv .u64) (.v 3))) (.i 32))))
 (.need (.o .ne (.o (.shr .u64) (.o (.shl .u64) (.v 2) (.u (.conv .u64) (.v 3))) (.i 32)) (.i 0)) (.loop [(.o (.quo .u64) (.o (.sub .u64) (.o (.add .u64) (.o (.mul .u64) (.o (.bor .u64) (.o (.shl .u64) (.v 0) (.u (.conv .u64) (.v 3))) (.o (.shr .u64) (.v 1) (.o (.sub .u64) (.i 64) (.u (.conv .u64) (.v 3))))) (.i 4294967296)) (.o (.shr .u64) (.o (.shl .u64) (.v 1) (.u (.conv .u64) (.v 3))) (.i 32))) (.o (.mul .u64) (.o (.sub .u64) (.v 4) (.i 1)) (.o (.shl .u64) (.v 2) (.u (.conv .u64) (.v 3))))) (.o (.shr .u64) (.o (.shl .u64) (.v 2) (.u (.conv .u64) (.v 3))) (.i 32))), (.o (.sub .u64) (.o (.sub .u64) (.o (.add .u64) (.o (.mul .u64) (.o (.bor .u64) (.o (.shl .u64) (.v 0) (.u (.conv .u64) (.v 3))) (.o (.shr .u64) (.v 1) (.o (.sub .u64) (.i 64) (.u (.conv .u64) (.v 3))))) (.i 4294967296)) (.o (.shr .u64) (.o (.shl .u64) (.v 1) (.u (.conv .u64) (.v 3))) (.i 32))) (.o (.mul .u64) (.o (.sub .u64) (.v 4) (.i 1)) (.o (.shl .u64) (.v 2) (.u (.conv .u64) (.v 3))))) (.o (.mul .u64) (.o (.quo .u64) (.o (.sub .u64) (.o (.add .u64) (.o (.mul .u64) (.o (.bor .u64) (.o (.shl .u64) (.v 0) (.u (.conv .u64) (.v 3))) (.o (.shr .u64) (.v 1) (.o (.sub .u64) (.i 64) (.u (.conv .u64) (.v 3))))) (.i 4294967296)) (.o (.shr .u64) (.o (.shl .u64) (.v 1) (.u (.conv .u64) (.v 3))) (.i 32))) (.o (.mul .u64) (.o (.sub .u64) (.v 4) (.i 1)) (.o (.shl .u64) (.v 2) (.u (.conv .u64) (.v 3))))) (.o (.shr .u64) (.o (.shl .u64) (.v 2) (.u (.conv .u64) (.v 3))) (.i 32))) (.o (.shr .u64) (.o (.shl .u64) (.v 2) (.u (.conv .u64) (.v 3))) (.i 32))))]
 (.ite (.o .le (.i 4294967296) (.v 6))
 (.ite (.o .le (.i 4294967296) (.o (.add .u64) (.v 7) (.o (.shr .u64) (.o (.shl .u64) (.v 2) (.u (.conv .u64) (.v 3))) (.i 32))))
 (.need (.o .le (.i 0) (.u (.conv .u64) (.v 3))) (.leaf [(.o (.add .u64) (.o (.mul .u64) (.o (.sub .u64) (.v 4) (.i 1)) (.i 4294967296)) (.o (.sub .u64) (.v 6) (.i 1))), (.o (.shr .u64) (.o (.sub .u64) (.o (.add .u64) (.o (.mul .u64) (.o (.sub .u64) (.o (.add .u64) (.o (.mul .u64) (.o (.bor .u64) (.o (.shl .u64) (.v 0) (.u (.conv .u64) (.v 3))) (.o (.shr .u64) (.v 1) (.o (.sub .u64) (.i 64) (.u (.conv .u64) (.v 3))))) (.i 4294967296)) (.o (.shr .u64) (.o (.shl .u64) (.v 1) (.u (.conv .u64) (.v 3))) (.i 32))) (.o (.mul .u64) (.o (.sub .u64) (.v 4) (.i 1)) (.o (.shl .u64) (.v 2) (.u (.conv .u64) (.v 3))))) (.i 4294967296)) (.o (.band .u64) (.o (.shl .u64) (.v 1) (.u (.conv .u64) (.v 3))) (.i 4294967295))) (.o (.mul .u64) (.o (.sub .u64) (.v 6) (.i 1)) (.o (.shl .u64) (.v 2) (.u (.conv .u64) (.v 3))))) (.u (.conv .u64) (.v 3)))]))
 (.next 1 [(.o (.sub .u64) (.v 6) (.i 1)), (.o (.add .u64) (.v 7) (.o (.shr .u64) (.o (.shl .u64) (.v 2) (.u (.conv .u64) (.v 3))) (.i 32)))]))
 (.ite (.o .lt (.o (.add .u64) (.o (.mul .u64) (.i 4294967296) (.v 7)) (.o (.band .u64) (.o (.shl .u64) (.v 1) (.u (.conv .u64) (.v 3))) (.i 4294967295))) (.o (.mul .u64) (.v 6) (.o (.band .u64) (.o (.shl .u64) (.v 2) (.u (.conv .u64) (.v 3))) (.i 4294967295))))
 (.ite (.o .le (.i 4294967296) (.o (.add .u64) (.v 7) (.o (.shr .u64) (.o (.shl .u64) (.v 2) (.u (.conv .u64) (.v 3))) (.i 32))))
 (.need (.o .le (.i 0) (.u (.conv .u64) (.v 3))) (.leaf [(.o (.add .u64) (.o (.mul .u64) (.o (.sub .u64) (.v 4) (.i 1)) (.i 4294967296)) (.o (.sub .u64) (.v 6) (.i 1))), (.o (.shr .u64) (.o (.sub .u64) (.o (.add .u64) (.o (.mul .u64) (.o (.sub .u64) (.o (.add .u64) (.o (.mul .u64) (.o (.bor .u64) (.o (.shl .u64) (.v 0) (.u (.conv .u64) (.v 3))) (.o (.shr .u64) (.v 1) (.o (.sub .u64) (.i 64) (.u (.conv .u64) (.v 3))))) (.i 4294967296)) (.o (.shr .u64) (.o (.shl .u64) (.v 1) (.u (.conv .u64) (.v 3))) (.i 32))) (.o (.mul .u64) (.o (.sub .u64) (.v 4) (.i 1)) (.o (.shl .u64) (.v 2) (.u (.conv .u64) (.v 3))))) (.i 4294967296)) (.o (.band .u64) (.o (.shl .u64) (.v 1) (.u (.conv .u64) (.v 3))) (.i 4294967295))) (.o (.mul .u64) (.o (.sub .u64) (.v 6) (.i 1)) (.o (.shl .u64) (.v 2) (.u (.conv .u64) (.v 3))))) (.u (.conv .u64) (.v 3)))]))
 (.next 1 [(.o (.sub .u64) (.v 6) (.i 1)), (.o (.add .u64) (.v 7) (.o (.shr .u64) (.o (.shl .u64) (.v 2) (.u (.conv .u64) (.v 3))) (.i 32)))]))
 (.need (.o .le (.i 0) (.u (.conv .u64) (.v 3))) (.leaf [(.o (.add .u64) (.o (.mul .u64) (.o (.sub .u64) (.v 4) (.i 1)) (.i 4294967296)) (.v 6)), (.o (.shr .u64) (.o (.sub .u64) (.o (.add .u64) (.o (.mul .u64) (.o (.sub .u64) (.o (.add .u64) (.o (.mul .u64) (.o (.bor .u64) (.o (.shl .u64) (.v 0) (.u (.conv .u64) (.v 3))) (.o (.shr .u64) (.v 1) (.o (.sub .u64) (.i 64) (.u (.conv .u64) (.v 3))))) (.i 4294967296)) (.o (.shr .u64) (.o (.shl .u64) (.v 1) (.u (.conv .u64) (.v 3))) (.i 32))) (.o (.mul .u64) (.o (.sub .u64) (.v 4) (.i 1)) (.o (.shl .u64) (.v 2) (.u (.conv .u64) (.v 3))))) (.i 4294967296)) (.o (.band .u64) (.o (.shl .u64) (.v 1) (.u (.conv .u64) (.v 3))) (.i 4294967295))) (.o (.mul .u64) (.v 6) (.o (.shl .u64) (.v 2) (.u (.conv .u64) (.v 3))))) (.u (.conv .u64) (.v 3)))]))))))
 (.next 0 [(.o (.sub .u64) (.v 4) (.i 1)), (.o (.add .u64) (.v 5) (.o (.shr .u64) (.o (.shl .u64) (.v 2) (.u (.conv .u64) (.v 3))) (.i 32)))]))
 (.need (.o .ne (.o (.shr .u64) (.o (.shl .u64) (.v 2) (.u (.conv .u64) (.v 3))) (.i 32)) (.i 0)) (.loop [(.o (.quo .u64) (.o (.sub .u64) (.o (.add .u64) (.o (.mul .u64) (.o (.bor .u64) (.o (.shl .u64) (.v 0) (.u (.conv .u64) (.v 3))) (.o (.shr .u64) (.v 1) (.o (.sub .u64) (.i 64) (.u (.conv .u64) (.v 3))))) (.i 4294967296)) (.o (.shr .u64) (.o (.shl .u64) (.v 1) (.u (.conv .u64) (.v 3))) (.i 32))) (.o (.mul .u64) (.v 4) (.o (.shl .u64) (.v 2) (.u (.conv .u64) (.v 3))))) (.o (.shr .u64) (.o (.shl .u64) (.v 2) (.u (.conv .u64) (.v 3))) (.i 32))), (.o (.sub .u64) (.o (.sub .u64) (.o (.add .u64) (.o (.mul .u64) (.o (.bor .u64) (.o (.shl .u64) (.v 0) (.u (.conv .u64) (.v 3))) (.o (.shr .u64) (.v 1) (.o (.sub .u64) (.i 64) (.u (.conv .u64) (.v 3))))) (.i 4294967296)) (.o (.shr .u64) (.o (.shl .u64) (.v 1) (.u (.conv .u64) (.v 3))) (.i 32))) (.o (.mul .u64) (.v 4) (.o (.shl .u64) (.v 2) (.u (.conv .u64) (.v 3))))) (.o (.mul .u64) (.o (.quo .u64) (.o (.sub .u64) (.o (.add .u64) (.o (.mul .u64) (.o (.bor .u64) (.o (.shl .u64) (.v 0) (.u (.conv .u64) (.v 3))) (.o (.shr .u64) (.v 1) (.o (.sub .u64) (.i 64) (.u (.conv .u64) (.v 3))))) (.i 4294967296)) (.o (.shr .u64) (.o (.shl .u64) (.v 1) (.u (.conv .u64) (.v 3))) (.i 32))) (.o (.mul .u64) (.v 4) (.o (.shl .u64) (.v 2) (.u (.conv .u64) (.v 3))))) (.o (.shr .u64) (.o (.shl .u64) (.v 2) (.u (.conv .u64) (.v 3))) (.i 32))) (.o (.shr .u64) (.o (.shl .u64) (.v 2) (.u (.conv .u64) (.v 3))) (.i 32))))]
 (.ite (.o .le (.i 4294967296) (.v 6))
 (.ite (.o .le (.i 4294967296) (.o (.add .u64) (.v 7) (.o (.shr .u64) (.o (.shl .u64) (.v 2) (.u (.conv .u64) (.v 3))) (.i 32))))
 (.need (.o .le (.i 0) (.u (.conv .u64) (.v 3))) (.leaf [(.o (.add .u64) (.o (.mul .u64) (.v 4) (.i 4294967296)) (.o (.sub .u64) (.v 6) (.i 1))), (.o (.shr .u64) (.o (.sub .u64) (.o (.add .u64) (.o (.mul .u64) (.o (.sub .u64) (.o (.add .u64) (.o (.mul .u64) (.o (.bor .u64) (.o (.shl .u64) (.v 0) (.u (.conv .u64) (.v 3))) (.o (.shr .u64) (.v 1) (.o (.sub .u64) (.i 64) (.u (.conv .u64) (.v 3))))) (.i 4294967296)) (.o (.shr .u64) (.o (.shl .u64) (.v 1) (.u (.conv .u64) (.v 3))) (.i 32))) (.o (.mul .u64) (.v 4) (.o (.shl .u64) (.v 2) (.u (.conv .u64) (.v 3))))) (.i 4294967296)) (.o (.band .u64) (.o (.shl .u64) (.v 1) (.u (.conv .u64) (.v 3))) (.i 4294967295))) (.o (.mul .u64) (.o (.sub .u64) (.v 6) (.i 1)) (.o (.shl .u64) (.v 2) (.u (.conv .u64) (.v 3))))) (.u (.conv .u64) (.v 3)))]))
 (.next 1 [(.o (.sub .u64) (.v 6) (.i 1)), (.o (.add .u64) (.v 7) (.o (.shr .u64) (.o (.shl .u64) (.v 2) (.u (.conv .u64) (.v 3))) (.i 32)))]))
 (.ite (.o .lt (.o (.add .u64) (.o (.mul .u64) (.i 4294967296) (.v 7)) (.o (.band .u64) (.o (.shl .u64) (.v 1) (.u (.conv .u64) (.v 3))) (.i 4294967295))) (.o (.mul .u64) (.v 6) (.o (.band .u64) (.o (.shl .u64) (.v 2) (.u (.conv .u64) (.v 3))) (.i 4294967295))))
 (.ite (.o .le (.i 4294967296) (.o (.add .u64) (.v 7) (.o (.shr .u64) (.o (.shl .u64) (.v 2) (.u (.conv .u64) (.v 3))) (.i 32))))
 (.need (.o .le (.i 0) (.u (.conv .u64) (.v 3))) (.leaf [(.o (.add .u64) (.o (.mul .u64) (.v 4) (.i 4294967296)) (.o (.sub .u64) (.v 6) (.i 1))), (.o (.shr .u64) (.o (.sub .u64) (.o (.add .u64) (.o (.mul .u64) (.o (.sub .u64) (.o (.add .u64) (.o (.mul .u64) (.o (.bor .u64) (.o (.shl .u64) (.v 0) (.u (.conv .u64) (.v 3))) (.o (.shr .u64) (.v 1) (.o (.sub .u64) (.i 64) (.u (.conv .u64) (.v 3))))) (.i 4294967296)) (.o (.shr .u64) (.o (.shl .u64) (.v 1) (.u (.conv .u64) (.v 3))) (.i 32))) (.o (.mul .u64) (.v 4) (.o (.shl .u64) (.v 2) (.u (.conv .u64) (.v 3))))) (.i 4294967296)) (.o (.band .u64) (.o (.shl .u64) (.v 1) (.u (.conv .u64) (.v 3))) (.i 4294967295))) (.o (.mul .u64) (.o (.sub .u64) (.v 6) (.i 1)) (.o (.shl .u64) (.v 2) (.u (.conv .u64) (.v 3))))) (.u (.conv .u64) (.v 3)))]))
 (.next 1 [(.o (.sub .u64) (.v 6) (.i 1)), (.o (.add .u64) (.v 7) (.o (.shr .u64) (.o (.shl .u64) (.v 2) (.u (.conv .u64) (.v 3))) (.i 32)))]))
 (.need (.o .le (.i 0) (.u (.conv .u64) (.v 3))) (.leaf [(.o (.add .u64) (.o (.mul .u64) (.v 4) (.i 4294967296)) (.v 6)), (.o (.shr .u64) (.o (.sub .u64) (.o (.add .u64) (.o (.mul .u64) (.o (.sub .u64) (.o (.add .u64) (.o (.mul .u64) (.o (.bor .u64) (.o (.shl .u64) (.v 0) (.u (.conv .u64) (.v 3))) (.o (.shr .u64) (.v 1) (.o (.sub .u64) (.i 64) (.u (.conv .u64) (.v 3))))) (.i 4294967296)) (.o (.shr .u64) (.o (.shl .u64) (.v 1) (.u (.conv .u64) (.v 3))) (.i 32))) (.o (.mul .u64) (.v 4) (.o (.shl .u64) (.v 2) (.u (.conv .u64) (.v 3))))) (.i 4294967296)) (.o (.band .u64) (.o (.shl .u64) (.v 1) (.u (.conv .u64) (.v 3))) (.i 4294967295))) (.o (.mul .u64) (.v 6) (.o (.shl .u64) (.v 2) (.u (.conv .u64) (.v 3))))) (.u (.conv .u64) (.v 3)))]))))))))))))))))))
noncomputable def k_bits_Div64 : Known Tryd.prog := known mixedOk [k_bits_LeadingZeros64] (by decide) [⟨5800024, [(18, 0), (16, 0)], [102, 103, 104, 105, 106, 107, 108, 109, 110, 111, 112, 113, 114, 115, 116, 117, 118, 119, 120], [], []⟩, ⟨5800017, [(15, 0), (16, 0)], [67, 68, 69, 70, 71, 72, 73, 74, 75, 76, 77, 78, 79, 80, 81, 82, 83, 84, 85], [], []⟩] plTypes plOk inFuncs insOk 6 ⟨58, [(.a (.ck (.int .u64))), (.a (.ck (.int .u64))), (.a (.ck (.int .u64)))], (.t [(.a (.ck (.int .u64))), (.a (.ck (.int .u64)))])⟩ (fun args w => Tryd.call58 args w) tk_bits_Div64 (by kernel_rfl)
theorem k_bits_Div64_f : k_bits_Div64.con.f = 58 := rfl
theorem k_bits_Div64_F (l : List Sc) : k_bits_Div64.F l = if l.length = 3 then tk_bits_Div64.den (gam (P := Tryd.prog) [k_bits_LeadingZeros64]) l [] else none := rfl
def tk_simulatorref02_Valid : T (List Ex) :=
 (.ite (.o .lt (.v 1) (.i 1))
 (.leaf [(.b false)])
 (.ite (.o .lt (.i 1000000000000000) (.v 1))
 (.leaf [(.b false)])
 (.ite (.o .lt (.v 0) (.i (-4611686018427387904)))
 (.leaf [(.b false)])
 (.ite (.o .lt (.i 4611686018427387904) (.v 0))
 (.leaf [(.b false)])
 (.call 37 [(.v 0)] 1
 (.call 37 [(.v 1)] 1
 (.call 38 [(.i 0), (.v 2), (.i 0), (.v 3)] 2
 (.leaf [(.o .and (.o .eq (.v 4) (.i 0)) (.o .and (.o .eq (.v 5) (.i 1)) (.b true)))]))))))))
noncomputable def k_simulatorref02_Valid : Known Tryd.prog := known mixedOk [k_simulatorref02_Size, k_simulatorref02_common] (by decide) [] plTypes plOk inFuncs insOk 6 ⟨14, [(.g [(.ck (.int .i64)), (.ck (.int .i64))])], (.c (.a (.ck .bool)))⟩ (fun args w => Tryd.call14 args w) tk_simulatorref02_Valid (by kernel_rfl)
theorem k_simulatorref02_Valid_f : k_simulatorref02_Valid.con.f = 14 := rfl
theorem k_simulatorref02_Valid_F (l : List Sc) : k_simulatorref02_Valid.F l = if l.length = 2 then tk_simulatorref02_Valid.den (gam (P := Tryd.prog) [k_simulatorref02_Size, k_simulatorref02_common]) l [] else none := rfl
def tk_simulatorref02_Text : T (List Ex) :=
 (.call 14 [(.v 0), (.v 1)] 1
 (.ite (.u .not (.v 2))
 (.leaf [(.s [])])
 (.call 37 [(.v 0)] 1
 (.call 40 [(.v 3)] 1
 (.ite (.o .lt (.v 0) (.i 0))
 (.need (.o .le (.u .slen (.o .cat (.s [45]) (.v 4))) (.i 9223372036854775807)) (.ite (.o .ne (.v 1) (.i 1))
 (.need (.o .le (.u .slen (.o .cat (.o .cat (.s [45]) (.v 4)) (.s [47]))) (.i 9223372036854775807)) (.call 37 [(.v 1)] 1
 (.call 40 [(.v 5)] 1
 (.need (.o .le (.u .slen (.o .cat (.o .cat (.o .cat (.s [45]) (.v 4)) (.s [47])) (.v 6))) (.i 9223372036854775807)) (.leaf [(.o .cat (.o .cat (.o .cat (.s [45]) (.v 4)) (.s [47])) (.v 6))])))))
 (.leaf [(.o .cat (.s [45]) (.v 4))])))
 (.ite (.o .ne (.v 1) (.i 1))
 (.need (.o .le (.u .slen (.o .cat (.v 4) (.s [47]))) (.i 9223372036854775807)) (.call 37 [(.v 1)] 1
 (.call 40 [(.v 5)] 1
 (.need (.o .le (.u .slen (.o .cat (.o .cat (.v 4) (.s [47])) (.v 6))) (.i 9223372036854775807)) (.leaf [(.o .cat (.o .cat (.v 4) (.s [47])) (.v 6))])))))
 (.leaf [(.v 4)])))))))
noncomputable def k_simulatorref02_Text : Known Tryd.prog := known mixedOk [k_simulatorref02_Valid, k_simulatorref02_Size, k_simulatorref02_Digits] (by decide) [] plTypes plOk inFuncs insOk 6 ⟨16, [(.g [(.ck (.int .i64)), (.ck (.int .i64))])], (.c (.a (.ck .str)))⟩ (fun args w => Tryd.call16 args w) tk_simulatorref02_Text (by kernel_rfl)
theorem k_simulatorref02_Text_f : k_simulatorref02_Text.con.f = 16 := rfl
theorem k_simulatorref02_Text_F (l : List Sc) : k_simulatorref02_Text.F l = if l.length = 2 then tk_simulatorref02_Text.den (gam (P := Tryd.prog) [k_simulatorref02_Valid, k_simulatorref02_Size, k_simulatorref02_Digits]) l [] else none := rfl
def tk_simulatorref02_Floor : T (List Ex) :=
 (.call 14 [(.v 0), (.v 1)] 1
 (.ite (.u .not (.v 3))
 (.leaf [(.i 0), (.b false)])
 (.ite (.o .lt (.v 2) (.i 0))
 (.leaf [(.i 0), (.b false)])
 (.ite (.o .lt (.i 1000000000000) (.v 2))
 (.leaf [(.i 0), (.b false)])
 (.call 37 [(.v 0)] 1
 (.call 37 [(.v 2)] 1
 (.call 47 [(.v 4), (.v 5)] 2
 (.call 37 [(.v 1)] 1
 (.call 46 [(.v 6), (.v 7), (.i 0), (.v 8)] 4
 (.ite (.o .lt (.v 0) (.i 0))
 (.ite (.u .not (.o .and (.o .eq (.v 11) (.i 0)) (.o .and (.o .eq (.v 12) (.i 0)) (.b true))))
 (.call 48 [(.v 9), (.v 10), (.i 0), (.i 1)] 2
 (.ite (.o .ne (.v 13) (.i 0))
 (.leaf [(.i 0), (.b false)])
 (.ite (.o .lt (.i 4611686018427387904) (.v 14))
 (.leaf [(.i 0), (.b false)])
 (.ite (.o .lt (.v 0) (.i 0))
 (.leaf [(.o (.sub .i64) (.i 0) (.u (.conv .i64) (.v 14))), (.b true)])
 (.leaf [(.u (.conv .i64) (.v 14)), (.b true)])))))
 (.ite (.o .ne (.v 9) (.i 0))
 (.leaf [(.i 0), (.b false)])
 (.ite (.o .lt (.i 4611686018427387904) (.v 10))
 (.leaf [(.i 0), (.b false)])
 (.ite (.o .lt (.v 0) (.i 0))
 (.leaf [(.o (.sub .i64) (.i 0) (.u (.conv .i64) (.v 10))), (.b true)])
 (.leaf [(.u (.conv .i64) (.v 10)), (.b true)])))))
 (.ite (.o .ne (.v 9) (.i 0))
 (.leaf [(.i 0), (.b false)])
 (.ite (.o .lt (.i 4611686018427387904) (.v 10))
 (.leaf [(.i 0), (.b false)])
 (.ite (.o .lt (.v 0) (.i 0))
 (.leaf [(.o (.sub .i64) (.i 0) (.u (.conv .i64) (.v 10))), (.b true)])
 (.leaf [(.u (.conv .i64) (.v 10)), (.b true)]))))))))))))))
noncomputable def k_simulatorref02_Floor : Known Tryd.prog := known mixedOk [k_simulatorref02_Valid, k_simulatorref02_Size, k_simulatorref02_Times, k_simulatorref02_Divide, k_simulatorref02_Plus] (by decide) [] plTypes plOk inFuncs insOk 6 ⟨24, [(.g [(.ck (.int .i64)), (.ck (.int .i64))]), (.a (.ck (.int .i64)))], (.t [(.a (.ck (.int .i64))), (.a (.ck .bool))])⟩ (fun args w => Tryd.call24 args w) tk_simulatorref02_Floor (by kernel_rfl)
theorem k_simulatorref02_Floor_f : k_simulatorref02_Floor.con.f = 24 := rfl
theorem k_simulatorref02_Floor_F (l : List Sc) : k_simulatorref02_Floor.F l = if l.length = 3 then tk_simulatorref02_Floor.den (gam (P := Tryd.prog) [k_simulatorref02_Valid, k_simulatorref02_Size, k_simulatorref02_Times, k_simulatorref02_Divide, k_simulatorref02_Plus]) l [] else none := rfl
def tk_simulatorref02_Made : T (List Ex) :=
 (.call 38 [(.v 1), (.v 2), (.v 3), (.v 4)] 2
 (.call 46 [(.v 1), (.v 2), (.v 5), (.v 6)] 4
 (.call 46 [(.v 3), (.v 4), (.v 5), (.v 6)] 4
 (.ite (.o .ne (.v 7) (.i 0))
 (.leaf [(.i 0), (.i 0), (.b false)])
 (.ite (.o .lt (.i 4611686018427387904) (.v 8))
 (.leaf [(.i 0), (.i 0), (.b false)])
 (.ite (.o .ne (.v 11) (.i 0))
 (.leaf [(.i 0), (.i 0), (.b false)])
 (.ite (.o .lt (.i 1000000000000000) (.v 12))
 (.leaf [(.i 0), (.i 0), (.b false)])
 (.ite (.v 0)
 (.leaf [(.o (.sub .i64) (.i 0) (.u (.conv .i64) (.v 8))), (.u (.conv .i64) (.v 12)), (.b true)])
 (.leaf [(.u (.conv .i64) (.v 8)), (.u (.conv .i64) (.v 12)), (.b true)])))))))))
noncomputable def k_simulatorref02_Made : Known Tryd.prog := known mixedOk [k_simulatorref02_common, k_simulatorref02_Divide] (by decide) [] plTypes plOk inFuncs insOk 6 ⟨36, [(.g [(.ck .bool), (.ck (.int .u64)), (.ck (.int .u64))]), (.g [(.ck (.int .u64)), (.ck (.int .u64))])], (.t [(.g [(.ck (.int .i64)), (.ck (.int .i64))]), (.a (.ck .bool))])⟩ (fun args w => Tryd.call36 args w) tk_simulatorref02_Made (by kernel_rfl)
theorem k_simulatorref02_Made_f : k_simulatorref02_Made.con.f = 36 := rfl
theorem k_simulatorref02_Made_F (l : List Sc) : k_simulatorref02_Made.F l = if l.length = 5 then tk_simulatorref02_Made.den (gam (P := Tryd.prog) [k_simulatorref02_common, k_simulatorref02_Divide]) l [] else none := rfl
def tk_frac_wide_over : T (List Ex) :=
 (.ite (.o .le (.v 2) (.v 0))
 (.leaf [(.i 0), (.b false)])
 (.call 58 [(.v 0), (.v 1), (.v 2)] 2
 (.leaf [(.v 3), (.b true)])))
noncomputable def k_frac_wide_over : Known Tryd.prog := known mixedOk [k_bits_Div64] (by decide) [] plTypes plOk inFuncs insOk 6 ⟨44, [(.g [(.ck (.int .u64)), (.ck (.int .u64))]), (.a (.ck (.int .u64)))], (.t [(.a (.ck (.int .u64))), (.a (.ck .bool))])⟩ (fun args w => Tryd.call44 args w) tk_frac_wide_over (by kernel_rfl)
theorem k_frac_wide_over_f : k_frac_wide_over.con.f = 44 := rfl
theorem k_frac_wide_over_F (l : List Sc) : k_frac_wide_over.F l = if l.length = 3 then tk_frac_wide_over.den (gam (P := Tryd.prog) [k_bits_Div64]) l [] else none := rfl
def tk_frac_wide_mod : T (List Ex) :=
 (.need (.o .ne (.v 2) (.i 0)) (.call 58 [(.o (.rem .u64) (.v 0) (.v 2)), (.v 1), (.v 2)] 2
 (.leaf [(.v 4)])))
noncomputable def k_frac_wide_mod : Known Tryd.prog := known mixedOk [k_bits_Div64] (by decide) [] plTypes plOk inFuncs insOk 6 ⟨45, [(.g [(.ck (.int .u64)), (.ck (.int .u64))]), (.a (.ck (.int .u64)))], (.c (.a (.ck (.int .u64))))⟩ (fun args w => Tryd.call45 args w) tk_frac_wide_mod (by kernel_rfl)
theorem k_frac_wide_mod_f : k_frac_wide_mod.con.f = 45 := rfl
theorem k_frac_wide_mod_F (l : List Sc) : k_frac_wide_mod.F l = if l.length = 3 then tk_frac_wide_mod.den (gam (P := Tryd.prog) [k_bits_Div64]) l [] else none := rfl
def tk_simulatorref02_usual : T (List Ex) :=
 (.call 14 [(.v 0), (.v 1)] 1
 (.ite (.v 2)
 (.leaf [(.v 0), (.v 1)])
 (.leaf [(.i 0), (.i 1)])))
noncomputable def k_simulatorref02_usual : Known Tryd.prog := known mixedOk [k_simulatorref02_Valid] (by decide) [] plTypes plOk inFuncs insOk 6 ⟨53, [(.g [(.ck (.int .i64)), (.ck (.int .i64))])], (.c (.g [(.ck (.int .i64)), (.ck (.int .i64))]))⟩ (fun args w => Tryd.call53 args w) tk_simulatorref02_usual (by kernel_rfl)
theorem k_simulatorref02_usual_f : k_simulatorref02_usual.con.f = 53 := rfl
theorem k_simulatorref02_usual_F (l : List Sc) : k_simulatorref02_usual.F l = if l.length = 2 then tk_simulatorref02_usual.den (gam (P := Tryd.prog) [k_simulatorref02_Valid]) l [] else none := rfl
def tk_simulatorref02_Of : T (List Ex) :=
 (.ite (.o .eq (.v 1) (.i 0))
 (.leaf [(.i 0), (.i 0), (.b false)])
 (.call 37 [(.v 0)] 1
 (.call 37 [(.v 1)] 1
 (.call 36 [(.u .not (.o .beq (.o .lt (.v 0) (.i 0)) (.o .lt (.v 1) (.i 0)))), (.i 0), (.v 2), (.i 0), (.v 3)] 3
 (.leaf [(.v 4), (.v 5), (.v 6)])))))
noncomputable def k_simulatorref02_Of : Known Tryd.prog := known mixedOk [k_simulatorref02_Size, k_simulatorref02_Made] (by decide) [] plTypes plOk inFuncs insOk 6 ⟨11, [(.a (.ck (.int .i64))), (.a (.ck (.int .i64)))], (.t [(.g [(.ck (.int .i64)), (.ck (.int .i64))]), (.a (.ck .bool))])⟩ (fun args w => Tryd.call11 args w) tk_simulatorref02_Of (by kernel_rfl)
theorem k_simulatorref02_Of_f : k_simulatorref02_Of.con.f = 11 := rfl
theorem k_simulatorref02_Of_F (l : List Sc) : k_simulatorref02_Of.F l = if l.length = 2 then tk_simulatorref02_Of.den (gam (P := Tryd.prog) [k_simulatorref02_Size, k_simulatorref02_Made]) l [] else none := rfl
def tk_frac_Floor : T (List Ex) :=
 (.call 12 [(.v 0), (.v 1)] 1
 (.ite (.u .not (.v 3))
 (.leaf [(.i 0), (.b false)])
 (.ite (.o .lt (.v 2) (.i 0))
 (.leaf [(.i 0), (.b false)])
 (.ite (.o .lt (.i 1000000000000) (.v 2))
 (.leaf [(.i 0), (.b false)])
 (.call 34 [(.v 0)] 1
 (.call 43 [(.v 4), (.u (.conv .u64) (.v 2))] 2
 (.call 44 [(.v 5), (.v 6), (.u (.conv .u64) (.v 1))] 2
 (.ite (.u .not (.v 8))
 (.leaf [(.i 0), (.b false)])
 (.ite (.o .lt (.i 4611686018427387904) (.v 7))
 (.leaf [(.i 0), (.b false)])
 (.ite (.o .lt (.v 0) (.i 0))
 (.call 45 [(.v 5), (.v 6), (.u (.conv .u64) (.v 1))] 1
 (.ite (.o .lt (.i 0) (.v 9))
 (.ite (.o .lt (.i 4611686018427387904) (.o (.add .u64) (.v 7) (.i 1)))
 (.leaf [(.i 0), (.b false)])
 (.ite (.o .lt (.v 0) (.i 0))
 (.leaf [(.o (.sub .i64) (.i 0) (.u (.conv .i64) (.o (.add .u64) (.v 7) (.i 1)))), (.b true)])
 (.leaf [(.u (.conv .i64) (.o (.add .u64) (.v 7) (.i 1))), (.b true)])))
 (.ite (.o .lt (.i 4611686018427387904) (.v 7))
 (.leaf [(.i 0), (.b false)])
 (.ite (.o .lt (.v 0) (.i 0))
 (.leaf [(.o (.sub .i64) (.i 0) (.u (.conv .i64) (.v 7))), (.b true)])
 (.leaf [(.u (.conv .i64) (.v 7)), (.b true)])))))
 (.ite (.o .lt (.i 4611686018427387904) (.v 7))
 (.leaf [(.i 0), (.b false)])
 (.ite (.o .lt (.v 0) (.i 0))
 (.leaf [(.o (.sub .i64) (.i 0) (.u (.conv .i64) (.v 7))), (.b true)])
 (.leaf [(.u (.conv .i64) (.v 7)), (.b true)])))))))))))))
noncomputable def k_frac_Floor : Known Tryd.prog := known mixedOk [k_frac_Valid, k_frac_size, k_frac_times, k_frac_wide_over, k_frac_wide_mod] (by decide) [] plTypes plOk inFuncs insOk 6 ⟨23, [(.g [(.ck (.int .i64)), (.ck (.int .i64))]), (.a (.ck (.int .i64)))], (.t [(.a (.ck (.int .i64))), (.a (.ck .bool))])⟩ (fun args w => Tryd.call23 args w) tk_frac_Floor (by kernel_rfl)
theorem k_frac_Floor_f : k_frac_Floor.con.f = 23 := rfl
theorem k_frac_Floor_F (l : List Sc) : k_frac_Floor.F l = if l.length = 3 then tk_frac_Floor.den (gam (P := Tryd.prog) [k_frac_Valid, k_frac_size, k_frac_times, k_frac_wide_over, k_frac_wide_mod]) l [] else none := rfl
def tk_simulatorref02_Add : T (List Ex) :=
 (.call 14 [(.v 0), (.v 1)] 1
 (.ite (.u .not (.v 4))
 (.leaf [(.i 0), (.i 0), (.b false)])
 (.call 14 [(.v 2), (.v 3)] 1
 (.ite (.u .not (.v 5))
 (.leaf [(.i 0), (.i 0), (.b false)])
 (.call 51 [(.v 0), (.v 3)] 3
 (.call 51 [(.v 2), (.v 1)] 3
 (.call 50 [(.v 6), (.v 7), (.v 8), (.v 9), (.v 10), (.v 11)] 3
 (.call 37 [(.v 1)] 1
 (.call 37 [(.v 3)] 1
 (.call 47 [(.v 15), (.v 16)] 2
 (.call 36 [(.v 12), (.v 13), (.v 14), (.v 17), (.v 18)] 3
 (.leaf [(.v 19), (.v 20), (.v 21)]))))))))))))
noncomputable def k_simulatorref02_Add : Known Tryd.prog := known mixedOk [k_simulatorref02_Valid, k_simulatorref02_Product, k_simulatorref02_Both, k_simulatorref02_Size, k_simulatorref02_Times, k_simulatorref02_Made] (by decide) [] plTypes plOk inFuncs insOk 6 ⟨27, [(.g [(.ck (.int .i64)), (.ck (.int .i64))]), (.g [(.ck (.int .i64)), (.ck (.int .i64))])], (.t [(.g [(.ck (.int .i64)), (.ck (.int .i64))]), (.a (.ck .bool))])⟩ (fun args w => Tryd.call27 args w) tk_simulatorref02_Add (by kernel_rfl)
theorem k_simulatorref02_Add_f : k_simulatorref02_Add.con.f = 27 := rfl
theorem k_simulatorref02_Add_F (l : List Sc) : k_simulatorref02_Add.F l = if l.length = 4 then tk_simulatorref02_Add.den (gam (P := Tryd.prog) [k_simulatorref02_Valid, k_simulatorref02_Product, k_simulatorref02_Both, k_simulatorref02_Size, k_simulatorref02_Times, k_simulatorref02_Made]) l [] else none := rfl
def tk_simulatorref02_Sub : T (List Ex) :=
 (.call 14 [(.v 2), (.v 3)] 1
 (.ite (.u .not (.v 4))
 (.leaf [(.i 0), (.i 0), (.b false)])
 (.call 52 [(.v 2), (.v 3)] 2
 (.call 27 [(.v 0), (.v 1), (.v 5), (.v 6)] 3
 (.leaf [(.v 7), (.v 8), (.v 9)])))))
noncomputable def k_simulatorref02_Sub : Known Tryd.prog := known mixedOk [k_simulatorref02_Valid, k_simulatorref02_Opposite, k_simulatorref02_Add] (by decide) [] plTypes plOk inFuncs insOk 6 ⟨28, [(.g [(.ck (.int .i64)), (.ck (.int .i64))]), (.g [(.ck (.int .i64)), (.ck (.int .i64))])], (.t [(.g [(.ck (.int .i64)), (.ck (.int .i64))]), (.a (.ck .bool))])⟩ (fun args w => Tryd.call28 args w) tk_simulatorref02_Sub (by kernel_rfl)
theorem k_simulatorref02_Sub_f : k_simulatorref02_Sub.con.f = 28 := rfl
theorem k_simulatorref02_Sub_F (l : List Sc) : k_simulatorref02_Sub.F l = if l.length = 4 then tk_simulatorref02_Sub.den (gam (P := Tryd.prog) [k_simulatorref02_Valid, k_simulatorref02_Opposite, k_simulatorref02_Add]) l [] else none := rfl
def tk_simulatorref02_Mul : T (List Ex) :=
 (.call 14 [(.v 0), (.v 1)] 1
 (.ite (.u .not (.v 4))
 (.leaf [(.i 0), (.i 0), (.b false)])
 (.call 14 [(.v 2), (.v 3)] 1
 (.ite (.u .not (.v 5))
 (.leaf [(.i 0), (.i 0), (.b false)])
 (.call 51 [(.v 0), (.v 2)] 3
 (.call 37 [(.v 1)] 1
 (.call 37 [(.v 3)] 1
 (.call 47 [(.v 9), (.v 10)] 2
 (.call 36 [(.v 6), (.v 7), (.v 8), (.v 11), (.v 12)] 3
 (.leaf [(.v 13), (.v 14), (.v 15)]))))))))))
noncomputable def k_simulatorref02_Mul : Known Tryd.prog := known mixedOk [k_simulatorref02_Valid, k_simulatorref02_Product, k_simulatorref02_Size, k_simulatorref02_Times, k_simulatorref02_Made] (by decide) [] plTypes plOk inFuncs insOk 6 ⟨29, [(.g [(.ck (.int .i64)), (.ck (.int .i64))]), (.g [(.ck (.int .i64)), (.ck (.int .i64))])], (.t [(.g [(.ck (.int .i64)), (.ck (.int .i64))]), (.a (.ck .bool))])⟩ (fun args w => Tryd.call29 args w) tk_simulatorref02_Mul (by kernel_rfl)
theorem k_simulatorref02_Mul_f : k_simulatorref02_Mul.con.f = 29 := rfl
theorem k_simulatorref02_Mul_F (l : List Sc) : k_simulatorref02_Mul.F l = if l.length = 4 then tk_simulatorref02_Mul.den (gam (P := Tryd.prog) [k_simulatorref02_Valid, k_simulatorref02_Product, k_simulatorref02_Size, k_simulatorref02_Times, k_simulatorref02_Made]) l [] else none := rfl
def tk_simulatorref02_Div : T (List Ex) :=
 (.call 14 [(.v 0), (.v 1)] 1
 (.ite (.u .not (.v 4))
 (.leaf [(.i 0), (.i 0), (.b false)])
 (.call 14 [(.v 2), (.v 3)] 1
 (.ite (.u .not (.v 5))
 (.leaf [(.i 0), (.i 0), (.b false)])
 (.ite (.o .eq (.v 2) (.i 0))
 (.leaf [(.i 0), (.i 0), (.b false)])
 (.call 51 [(.v 0), (.v 3)] 3
 (.call 37 [(.v 1)] 1
 (.call 37 [(.v 2)] 1
 (.call 47 [(.v 9), (.v 10)] 2
 (.call 36 [(.u .not (.o .beq (.o .lt (.v 0) (.i 0)) (.o .lt (.v 2) (.i 0)))), (.v 7), (.v 8), (.v 11), (.v 12)] 3
 (.leaf [(.v 13), (.v 14), (.v 15)])))))))))))
noncomputable def k_simulatorref02_Div : Known Tryd.prog := known mixedOk [k_simulatorref02_Valid, k_simulatorref02_Product, k_simulatorref02_Size, k_simulatorref02_Times, k_simulatorref02_Made] (by decide) [] plTypes plOk inFuncs insOk 6 ⟨31, [(.g [(.ck (.int .i64)), (.ck (.int .i64))]), (.g [(.ck (.int .i64)), (.ck (.int .i64))])], (.t [(.g [(.ck (.int .i64)), (.ck (.int .i64))]), (.a (.ck .bool))])⟩ (fun args w => Tryd.call31 args w) tk_simulatorref02_Div (by kernel_rfl)
theorem k_simulatorref02_Div_f : k_simulatorref02_Div.con.f = 31 := rfl
theorem k_simulatorref02_Div_F (l : List Sc) : k_simulatorref02_Div.F l = if l.length = 4 then tk_simulatorref02_Div.den (gam (P := Tryd.prog) [k_simulatorref02_Valid, k_simulatorref02_Product, k_simulatorref02_Size, k_simulatorref02_Times, k_simulatorref02_Made]) l [] else none := rfl
def tk_simulatorref02_Cmp : T (List Ex) :=
 (.call 53 [(.v 0), (.v 1)] 2
 (.call 53 [(.v 2), (.v 3)] 2
 (.call 51 [(.v 4), (.v 7)] 3
 (.call 51 [(.o (.sub .i64) (.i 0) (.v 6)), (.v 5)] 3
 (.call 50 [(.v 8), (.v 9), (.v 10), (.v 11), (.v 12), (.v 13)] 3
 (.ite (.o .and (.o .eq (.v 15) (.i 0)) (.o .and (.o .eq (.v 16) (.i 0)) (.b true)))
 (.leaf [(.i 0)])
 (.ite (.v 14)
 (.leaf [(.i (-1))])
 (.leaf [(.i 1)]))))))))
noncomputable def k_simulatorref02_Cmp : Known Tryd.prog := known mixedOk [k_simulatorref02_usual, k_simulatorref02_Product, k_simulatorref02_Both] (by decide) [] plTypes plOk inFuncs insOk 6 ⟨32, [(.g [(.ck (.int .i64)), (.ck (.int .i64))]), (.g [(.ck (.int .i64)), (.ck (.int .i64))])], (.c (.a (.ck (.int .i64))))⟩ (fun args w => Tryd.call32 args w) tk_simulatorref02_Cmp (by kernel_rfl)
theorem k_simulatorref02_Cmp_f : k_simulatorref02_Cmp.con.f = 32 := rfl
theorem k_simulatorref02_Cmp_F (l : List Sc) : k_simulatorref02_Cmp.F l = if l.length = 4 then tk_simulatorref02_Cmp.den (gam (P := Tryd.prog) [k_simulatorref02_usual, k_simulatorref02_Product, k_simulatorref02_Both]) l [] else none := rfl
def tk_frac_sum : T (List Ex) :=
 (.call 12 [(.v 0), (.v 1)] 1
 (.ite (.u .not (.v 5))
 (.leaf [(.i 0), (.i 0), (.b false)])
 (.call 12 [(.v 2), (.v 3)] 1
 (.ite (.u .not (.v 6))
 (.leaf [(.i 0), (.i 0), (.b false)])
 (.call 33 [(.u (.conv .u64) (.v 1)), (.u (.conv .u64) (.v 3))] 1
 (.call 34 [(.v 0)] 1
 (.need (.o .ne (.v 7) (.i 0)) (.call 43 [(.v 8), (.o (.quo .u64) (.u (.conv .u64) (.v 3)) (.v 7))] 2
 (.call 34 [(.v 2)] 1
 (.need (.o .ne (.v 7) (.i 0)) (.call 43 [(.v 11), (.o (.quo .u64) (.u (.conv .u64) (.v 1)) (.v 7))] 2
 (.call 42 [(.o .lt (.v 0) (.i 0)), (.v 9), (.v 10), (.u .not (.o .beq (.o .lt (.v 2) (.i 0)) (.v 4))), (.v 12), (.v 13)] 3
 (.ite (.o .and (.o .eq (.v 15) (.i 0)) (.o .and (.o .eq (.v 16) (.i 0)) (.b true)))
 (.leaf [(.i 0), (.i 1), (.b true)])
 (.call 45 [(.v 15), (.v 16), (.v 7)] 1
 (.call 33 [(.v 17), (.v 7)] 1
 (.call 44 [(.v 15), (.v 16), (.v 18)] 2
 (.need (.o .ne (.v 7) (.i 0)) (.need (.o .ne (.v 18) (.i 0)) (.call 43 [(.o (.quo .u64) (.u (.conv .u64) (.v 1)) (.v 7)), (.o (.quo .u64) (.u (.conv .u64) (.v 3)) (.v 18))] 2
 (.ite (.u .not (.v 20))
 (.leaf [(.i 0), (.i 0), (.b false)])
 (.ite (.o .ne (.v 21) (.i 0))
 (.leaf [(.i 0), (.i 0), (.b false)])
 (.call 35 [(.v 14), (.v 19), (.v 22)] 3
 (.leaf [(.v 23), (.v 24), (.v 25)])))))))))))))))))))))))
noncomputable def k_frac_sum : Known Tryd.prog := known mixedOk [k_frac_Valid, k_frac_gcd, k_frac_size, k_frac_times, k_frac_signed, k_frac_wide_mod, k_frac_wide_over, k_frac_made] (by decide) [] plTypes plOk inFuncs insOk 6 ⟨41, [(.g [(.ck (.int .i64)), (.ck (.int .i64))]), (.g [(.ck (.int .i64)), (.ck (.int .i64))]), (.a (.ck .bool))], (.t [(.g [(.ck (.int .i64)), (.ck (.int .i64))]), (.a (.ck .bool))])⟩ (fun args w => Tryd.call41 args w) tk_frac_sum (by kernel_rfl)
theorem k_frac_sum_f : k_frac_sum.con.f = 41 := rfl
theorem k_frac_sum_F (l : List Sc) : k_frac_sum.F l = if l.length = 5 then tk_frac_sum.den (gam (P := Tryd.prog) [k_frac_Valid, k_frac_gcd, k_frac_size, k_frac_times, k_frac_signed, k_frac_wide_mod, k_frac_wide_over, k_frac_made]) l [] else none := rfl
def tk_simulatorref02_Sum : T (List Ex) :=
 (.loop [(.i 0), (.i 0), (.i 1)]
 (.ite (.o .lt (.v 1) (.u .len (.v 0)))
 (.need (.o .le (.i 0) (.v 1)) (.need (.o .lt (.v 1) (.u .len (.v 0))) (.call 27 [(.v 2), (.v 3), (.u (.cell 0) (.o .idx (.v 0) (.v 1))), (.u (.cell 1) (.o .idx (.v 0) (.v 1)))] 3
 (.ite (.u .not (.v 6))
 (.leaf [(.i 0), (.i 0), (.b false)])
 (.next 0 [(.o (.add .i64) (.v 1) (.i 1)), (.v 4), (.v 5)])))))
 (.leaf [(.v 2), (.v 3), (.b true)])))
noncomputable def k_simulatorref02_Sum : Known Tryd.prog := known mixedOk [k_simulatorref02_Add] (by decide) [⟨1800003, [(6, 0)], [8, 9, 10, 11, 15, 16, 17, 18, 19, 20, 14, 21, 22, 5, 23, 24, 25, 3, 12, 13], [(1, (0, 0)), (1, (1, 0))], []⟩] plTypes plOk inFuncs insOk 6 ⟨18, [(.a (.row 23 [(.int .i64), (.int .i64)] true))], (.t [(.g [(.ck (.int .i64)), (.ck (.int .i64))]), (.a (.ck .bool))])⟩ (fun args w => Tryd.call18 args w) tk_simulatorref02_Sum (by kernel_rfl)
theorem k_simulatorref02_Sum_f : k_simulatorref02_Sum.con.f = 18 := rfl
theorem k_simulatorref02_Sum_F (l : List Sc) : k_simulatorref02_Sum.F l = if l.length = 1 then tk_simulatorref02_Sum.den (gam (P := Tryd.prog) [k_simulatorref02_Add]) l [] else none := rfl
def tk_frac_Add : T (List Ex) :=
 (.call 41 [(.v 0), (.v 1), (.v 2), (.v 3), (.b false)] 3
 (.leaf [(.v 4), (.v 5), (.v 6)]))
noncomputable def k_frac_Add : Known Tryd.prog := known mixedOk [k_frac_sum] (by decide) [] plTypes plOk inFuncs insOk 6 ⟨19, [(.g [(.ck (.int .i64)), (.ck (.int .i64))]), (.g [(.ck (.int .i64)), (.ck (.int .i64))])], (.t [(.g [(.ck (.int .i64)), (.ck (.int .i64))]), (.a (.ck .bool))])⟩ (fun args w => Tryd.call19 args w) tk_frac_Add (by kernel_rfl)
theorem k_frac_Add_f : k_frac_Add.con.f = 19 := rfl
theorem k_frac_Add_F (l : List Sc) : k_frac_Add.F l = if l.length = 4 then tk_frac_Add.den (gam (P := Tryd.prog) [k_frac_sum]) l [] else none := rfl
def tk_frac_Sub : T (List Ex) :=
 (.call 41 [(.v 0), (.v 1), (.v 2), (.v 3), (.b true)] 3
 (.leaf [(.v 4), (.v 5), (.v 6)]))
noncomputable def k_frac_Sub : Known Tryd.prog := known mixedOk [k_frac_sum] (by decide) [] plTypes plOk inFuncs insOk 6 ⟨21, [(.g [(.ck (.int .i64)), (.ck (.int .i64))]), (.g [(.ck (.int .i64)), (.ck (.int .i64))])], (.t [(.g [(.ck (.int .i64)), (.ck (.int .i64))]), (.a (.ck .bool))])⟩ (fun args w => Tryd.call21 args w) tk_frac_Sub (by kernel_rfl)
theorem k_frac_Sub_f : k_frac_Sub.con.f = 21 := rfl
theorem k_frac_Sub_F (l : List Sc) : k_frac_Sub.F l = if l.length = 4 then tk_frac_Sub.den (gam (P := Tryd.prog) [k_frac_sum]) l [] else none := rfl
def tk_frac_Sum : T (List Ex) :=
 (.loop [(.i 0), (.i 0), (.i 1)]
 (.ite (.o .lt (.v 1) (.u .len (.v 0)))
 (.need (.o .le (.i 0) (.v 1)) (.need (.o .lt (.v 1) (.u .len (.v 0))) (.call 19 [(.v 2), (.v 3), (.u (.cell 0) (.o .idx (.v 0) (.v 1))), (.u (.cell 1) (.o .idx (.v 0) (.v 1)))] 3
 (.ite (.u .not (.v 6))
 (.leaf [(.i 0), (.i 0), (.b false)])
 (.next 0 [(.o (.add .i64) (.v 1) (.i 1)), (.v 4), (.v 5)])))))
 (.leaf [(.v 2), (.v 3), (.b true)])))
noncomputable def k_frac_Sum : Known Tryd.prog := known mixedOk [k_frac_Add] (by decide) [⟨1700003, [(12, 0)], [13, 14, 15, 6, 17, 18, 19, 16, 20, 21, 7, 8, 22, 23, 24, 3, 25, 26], [(1, (0, 0)), (1, (1, 0))], []⟩] plTypes plOk inFuncs insOk 6 ⟨17, [(.a (.row 23 [(.int .i64), (.int .i64)] true))], (.t [(.g [(.ck (.int .i64)), (.ck (.int .i64))]), (.a (.ck .bool))])⟩ (fun args w => Tryd.call17 args w) tk_frac_Sum (by kernel_rfl)
theorem k_frac_Sum_f : k_frac_Sum.con.f = 17 := rfl
theorem k_frac_Sum_F (l : List Sc) : k_frac_Sum.F l = if l.length = 1 then tk_frac_Sum.den (gam (P := Tryd.prog) [k_frac_Add]) l [] else none := rfl
def tk_simulatorlaw02_awake : T (List Ex) :=
 (.call 10 [(.i 6), (.i (-4))] 3
 (.call 26 [(.i 1), (.i 2)] 2
 (.call 26 [(.i 1), (.i 3)] 2
 (.call 19 [(.v 3), (.v 4), (.v 5), (.v 6)] 3
 (.call 26 [(.i 1), (.i 2)] 2
 (.call 26 [(.i 1), (.i 3)] 2
 (.call 30 [(.v 10), (.v 11), (.v 12), (.v 13)] 3
 (.call 26 [(.i 1), (.i 3)] 2
 (.call 26 [(.i 1), (.i 3)] 2
 (.call 26 [(.i 1), (.i 3)] 2
 (.call 17 [(.o .cons (.o .cons (.v 17) (.o .cons (.v 18) .nil)) (.o .cons (.o .cons (.v 19) (.o .cons (.v 20) .nil)) (.o .cons (.o .cons (.v 21) (.o .cons (.v 22) .nil)) .nil)))] 3
 (.call 26 [(.i (-1)), (.i 3)] 2
 (.call 23 [(.v 26), (.v 27), (.i 10)] 2
 (.call 26 [(.i (-3)), (.i 2)] 2
 (.ite (.o .and (.o .eq (.v 0) (.v 30)) (.o .and (.o .eq (.v 1) (.v 31)) (.b true)))
 (.ite (.v 2)
 (.call 26 [(.i 5), (.i 6)] 2
 (.ite (.o .and (.o .eq (.v 7) (.v 32)) (.o .and (.o .eq (.v 8) (.v 33)) (.b true)))
 (.ite (.v 9)
 (.call 26 [(.i 3), (.i 2)] 2
 (.ite (.o .and (.o .eq (.v 14) (.v 34)) (.o .and (.o .eq (.v 15) (.v 35)) (.b true)))
 (.ite (.v 16)
 (.call 26 [(.i 1), (.i 1)] 2
 (.ite (.o .and (.o .eq (.v 23) (.v 36)) (.o .and (.o .eq (.v 24) (.v 37)) (.b true)))
 (.ite (.v 25)
 (.ite (.o .eq (.v 28) (.i (-4)))
 (.ite (.v 29)
 (.call 15 [(.v 0), (.v 1)] 1
 (.ite (.o .seq (.v 38) (.s [45, 51, 47, 50]))
 (.call 12 [(.v 0), (.v 1)] 1
 (.ite (.v 39)
 (.call 26 [(.i 2), (.i 4)] 2
 (.call 12 [(.v 40), (.v 41)] 1
 (.ite (.u .not (.v 42))
 (.call 26 [(.i 1), (.i 3)] 2
 (.call 26 [(.i 1), (.i 2)] 2
 (.call 20 [(.v 43), (.v 44), (.v 45), (.v 46)] 1
 (.leaf [(.o .eq (.v 47) (.i (-1)))]))))
 (.leaf [(.b false)]))))
 (.leaf [(.b false)])))
 (.leaf [(.b false)])))
 (.leaf [(.b false)]))
 (.leaf [(.b false)]))
 (.leaf [(.b false)]))
 (.leaf [(.b false)])))
 (.leaf [(.b false)]))
 (.leaf [(.b false)])))
 (.leaf [(.b false)]))
 (.leaf [(.b false)])))
 (.leaf [(.b false)]))
 (.leaf [(.b false)]))))))))))))))))
noncomputable def k_simulatorlaw02_awake : Known Tryd.prog := known mixedOk [k_frac_Of, k_simulatorlaw02_of, k_frac_Add, k_frac_Div, k_frac_Sum, k_frac_Floor, k_frac_Text, k_frac_Valid, k_frac_Cmp] (by decide) [] plTypes plOk inFuncs insOk 6 ⟨13, [], (.c (.a (.ck .bool)))⟩ (fun args w => Tryd.call13 args w) tk_simulatorlaw02_awake (by kernel_rfl)
theorem k_simulatorlaw02_awake_f : k_simulatorlaw02_awake.con.f = 13 := rfl
theorem k_simulatorlaw02_awake_F (l : List Sc) : k_simulatorlaw02_awake.F l = if l.length = 0 then tk_simulatorlaw02_awake.den (gam (P := Tryd.prog) [k_frac_Of, k_simulatorlaw02_of, k_frac_Add, k_frac_Div, k_frac_Sum, k_frac_Floor, k_frac_Text, k_frac_Valid, k_frac_Cmp]) l [] else none := rfl
def tk_simulatorlaw02_FracMakes : T (List Ex) :=
 (.call 10 [(.v 0), (.v 1)] 3
 (.call 11 [(.v 0), (.v 1)] 3
 (.ite (.u .not (.o .and (.o .eq (.v 2) (.v 5)) (.o .and (.o .eq (.v 3) (.v 6)) (.b true))))
 (.leaf [(.b false)])
 (.ite (.u .not (.o .beq (.v 4) (.v 7)))
 (.leaf [(.b false)])
 (.ite (.v 4)
 (.call 12 [(.v 2), (.v 3)] 1
 (.ite (.u .not (.v 8))
 (.leaf [(.b false)])
 (.ite (.o .lt (.i (-2147483648)) (.v 0))
 (.ite (.o .lt (.v 0) (.i 2147483648))
 (.ite (.o .lt (.i (-2147483648)) (.v 1))
 (.ite (.u .not (.v 4))
 (.call 13 [] 1
 (.leaf [(.v 9)]))
 (.ite (.u .not (.o .lt (.v 1) (.i 2147483648)))
 (.call 13 [] 1
 (.leaf [(.v 9)]))
 (.ite (.o .eq (.o (.mul .i64) (.v 2) (.v 1)) (.o (.mul .i64) (.v 0) (.v 3)))
 (.call 13 [] 1
 (.leaf [(.v 9)]))
 (.leaf [(.b false)]))))
 (.ite (.u .not (.v 4))
 (.call 13 [] 1
 (.leaf [(.v 9)]))
 (.call 13 [] 1
 (.leaf [(.v 9)]))))
 (.ite (.u .not (.v 4))
 (.call 13 [] 1
 (.leaf [(.v 9)]))
 (.call 13 [] 1
 (.leaf [(.v 9)]))))
 (.ite (.u .not (.v 4))
 (.call 13 [] 1
 (.leaf [(.v 9)]))
 (.call 13 [] 1
 (.leaf [(.v 9)]))))))
 (.ite (.o .lt (.i (-2147483648)) (.v 0))
 (.ite (.o .lt (.v 0) (.i 2147483648))
 (.ite (.o .lt (.i (-2147483648)) (.v 1))
 (.ite (.u .not (.v 4))
 (.call 13 [] 1
 (.leaf [(.v 8)]))
 (.ite (.u .not (.o .lt (.v 1) (.i 2147483648)))
 (.call 13 [] 1
 (.leaf [(.v 8)]))
 (.ite (.o .eq (.o (.mul .i64) (.v 2) (.v 1)) (.o (.mul .i64) (.v 0) (.v 3)))
 (.call 13 [] 1
 (.leaf [(.v 8)]))
 (.leaf [(.b false)]))))
 (.ite (.u .not (.v 4))
 (.call 13 [] 1
 (.leaf [(.v 8)]))
 (.call 13 [] 1
 (.leaf [(.v 8)]))))
 (.ite (.u .not (.v 4))
 (.call 13 [] 1
 (.leaf [(.v 8)]))
 (.call 13 [] 1
 (.leaf [(.v 8)]))))
 (.ite (.u .not (.v 4))
 (.call 13 [] 1
 (.leaf [(.v 8)]))
 (.call 13 [] 1
 (.leaf [(.v 8)])))))))))
noncomputable def k_simulatorlaw02_FracMakes : Known Tryd.prog := known mixedOk [k_frac_Of, k_simulatorref02_Of, k_frac_Valid, k_simulatorlaw02_awake] (by decide) [] plTypes plOk inFuncs insOk 6 ⟨3, [(.a (.ck (.int .i64))), (.a (.ck (.int .i64)))], (.c (.a (.ck .bool)))⟩ (fun args w => Tryd.call3 args w) tk_simulatorlaw02_FracMakes (by kernel_rfl)
theorem k_simulatorlaw02_FracMakes_f : k_simulatorlaw02_FracMakes.con.f = 3 := rfl
theorem k_simulatorlaw02_FracMakes_F (l : List Sc) : k_simulatorlaw02_FracMakes.F l = if l.length = 2 then tk_simulatorlaw02_FracMakes.den (gam (P := Tryd.prog) [k_frac_Of, k_simulatorref02_Of, k_frac_Valid, k_simulatorlaw02_awake]) l [] else none := rfl
def tk_simulatorlaw02_FracChecks : T (List Ex) :=
 (.call 12 [(.v 0), (.v 1)] 1
 (.call 14 [(.v 0), (.v 1)] 1
 (.ite (.u .not (.o .beq (.v 4) (.v 5)))
 (.leaf [(.b false)])
 (.call 15 [(.v 0), (.v 1)] 1
 (.call 16 [(.v 0), (.v 1)] 1
 (.ite (.u .not (.o .seq (.v 6) (.v 7)))
 (.leaf [(.b false)])
 (.call 15 [(.v 2), (.v 3)] 1
 (.call 16 [(.v 2), (.v 3)] 1
 (.ite (.u .not (.o .seq (.v 8) (.v 9)))
 (.leaf [(.b false)])
 (.call 12 [(.v 0), (.v 1)] 1
 (.ite (.v 10)
 (.call 12 [(.v 2), (.v 3)] 1
 (.ite (.u .not (.v 11))
 (.call 13 [] 1
 (.leaf [(.v 12)]))
 (.call 15 [(.v 0), (.v 1)] 1
 (.call 15 [(.v 2), (.v 3)] 1
 (.ite (.o .beq (.o .seq (.v 12) (.v 13)) (.o .and (.o .eq (.v 0) (.v 2)) (.o .and (.o .eq (.v 1) (.v 3)) (.b true))))
 (.call 13 [] 1
 (.leaf [(.v 14)]))
 (.leaf [(.b false)]))))))
 (.call 13 [] 1
 (.leaf [(.v 11)])))))))))))))
noncomputable def k_simulatorlaw02_FracChecks : Known Tryd.prog := known mixedOk [k_frac_Valid, k_simulatorref02_Valid, k_frac_Text, k_simulatorref02_Text, k_simulatorlaw02_awake] (by decide) [] plTypes plOk inFuncs insOk 6 ⟨4, [(.g [(.ck (.int .i64)), (.ck (.int .i64))]), (.g [(.ck (.int .i64)), (.ck (.int .i64))])], (.c (.a (.ck .bool)))⟩ (fun args w => Tryd.call4 args w) tk_simulatorlaw02_FracChecks (by kernel_rfl)
theorem k_simulatorlaw02_FracChecks_f : k_simulatorlaw02_FracChecks.con.f = 4 := rfl
theorem k_simulatorlaw02_FracChecks_F (l : List Sc) : k_simulatorlaw02_FracChecks.F l = if l.length = 4 then tk_simulatorlaw02_FracChecks.den (gam (P := Tryd.prog) [k_frac_Valid, k_simulatorref02_Valid, k_frac_Text, k_simulatorref02_Text, k_simulatorlaw02_awake]) l [] else none := rfl
def tk_simulatorlaw02_FracSums : T (List Ex) :=
 (.ite (.o .lt (.i 200) (.u .len (.v 0)))
 (.call 13 [] 1
 (.leaf [(.v 3)]))
 (.call 17 [(.v 0)] 3
 (.call 18 [(.v 0)] 3
 (.ite (.u .not (.o .and (.o .eq (.v 3) (.v 6)) (.o .and (.o .eq (.v 4) (.v 7)) (.b true))))
 (.leaf [(.b false)])
 (.ite (.u .not (.o .beq (.v 5) (.v 8)))
 (.leaf [(.b false)])
 (.need (.o .le (.u .len (.v 0)) (.i 8796093022208)) (.need (.o .le (.u .len (.o .snoc (.v 0) (.o .cons (.v 1) (.o .cons (.v 2) .nil)))) (.i 8796093022208)) (.call 17 [(.o .snoc (.v 0) (.o .cons (.v 1) (.o .cons (.v 2) .nil)))] 3
 (.call 19 [(.v 3), (.v 4), (.v 1), (.v 2)] 3
 (.ite (.o .and (.o .eq (.v 9) (.v 12)) (.o .and (.o .eq (.v 10) (.v 13)) (.b true)))
 (.ite (.o .beq (.v 11) (.v 14))
 (.call 13 [] 1
 (.leaf [(.v 15)]))
 (.leaf [(.b false)]))
 (.leaf [(.b false)])))))))))))
noncomputable def k_simulatorlaw02_FracSums : Known Tryd.prog := known mixedOk [k_simulatorlaw02_awake, k_frac_Sum, k_simulatorref02_Sum, k_frac_Add] (by decide) [] plTypes plOk inFuncs insOk 6 ⟨5, [(.a (.row 23 [(.int .i64), (.int .i64)] true)), (.g [(.ck (.int .i64)), (.ck (.int .i64))])], (.c (.a (.ck .bool)))⟩ (fun args w => Tryd.call5 args w) tk_simulatorlaw02_FracSums (by kernel_rfl)
theorem k_simulatorlaw02_FracSums_f : k_simulatorlaw02_FracSums.con.f = 5 := rfl
theorem k_simulatorlaw02_FracSums_F (l : List Sc) : k_simulatorlaw02_FracSums.F l = if l.length = 3 then tk_simulatorlaw02_FracSums.den (gam (P := Tryd.prog) [k_simulatorlaw02_awake, k_frac_Sum, k_simulatorref02_Sum, k_frac_Add]) l [] else none := rfl
def tk_simulatorlaw02_FracOrders : T (List Ex) :=
 (.call 20 [(.v 0), (.v 1), (.v 2), (.v 3)] 1
 (.call 20 [(.v 2), (.v 3), (.v 4), (.v 5)] 1
 (.call 20 [(.v 0), (.v 1), (.v 4), (.v 5)] 1
 (.call 20 [(.v 0), (.v 1), (.v 0), (.v 1)] 1
 (.ite (.o .ne (.v 9) (.i 0))
 (.leaf [(.b false)])
 (.call 20 [(.v 2), (.v 3), (.v 0), (.v 1)] 1
 (.ite (.o .ne (.v 6) (.o (.sub .i64) (.i 0) (.v 10)))
 (.leaf [(.b false)])
 (.ite (.o .lt (.v 6) (.i (-1)))
 (.leaf [(.b false)])
 (.ite (.o .lt (.i 1) (.v 6))
 (.leaf [(.b false)])
 (.ite (.o .le (.v 6) (.i 0))
 (.ite (.o .le (.v 7) (.i 0))
 (.ite (.o .lt (.i 0) (.v 8))
 (.leaf [(.b false)])
 (.call 12 [(.v 0), (.v 1)] 1
 (.ite (.v 11)
 (.call 12 [(.v 2), (.v 3)] 1
 (.ite (.v 12)
 (.ite (.u .not (.o .beq (.o .eq (.v 6) (.i 0)) (.o .and (.o .eq (.v 0) (.v 2)) (.o .and (.o .eq (.v 1) (.v 3)) (.b true)))))
 (.leaf [(.b false)])
 (.call 21 [(.v 0), (.v 1), (.v 2), (.v 3)] 3
 (.ite (.u .not (.v 15))
 (.call 13 [] 1
 (.leaf [(.v 16)]))
 (.call 22 [(.v 13)] 1
 (.ite (.o .eq (.v 6) (.v 16))
 (.call 13 [] 1
 (.leaf [(.v 17)]))
 (.leaf [(.b false)]))))))
 (.call 21 [(.v 0), (.v 1), (.v 2), (.v 3)] 3
 (.ite (.u .not (.v 15))
 (.call 13 [] 1
 (.leaf [(.v 16)]))
 (.call 22 [(.v 13)] 1
 (.ite (.o .eq (.v 6) (.v 16))
 (.call 13 [] 1
 (.leaf [(.v 17)]))
 (.leaf [(.b false)])))))))
 (.call 21 [(.v 0), (.v 1), (.v 2), (.v 3)] 3
 (.ite (.u .not (.v 14))
 (.call 13 [] 1
 (.leaf [(.v 15)]))
 (.call 22 [(.v 12)] 1
 (.ite (.o .eq (.v 6) (.v 15))
 (.call 13 [] 1
 (.leaf [(.v 16)]))
 (.leaf [(.b false)]))))))))
 (.call 12 [(.v 0), (.v 1)] 1
 (.ite (.v 11)
 (.call 12 [(.v 2), (.v 3)] 1
 (.ite (.v 12)
 (.ite (.u .not (.o .beq (.o .eq (.v 6) (.i 0)) (.o .and (.o .eq (.v 0) (.v 2)) (.o .and (.o .eq (.v 1) (.v 3)) (.b true)))))
 (.leaf [(.b false)])
 (.call 21 [(.v 0), (.v 1), (.v 2), (.v 3)] 3
 (.ite (.u .not (.v 15))
 (.call 13 [] 1
 (.leaf [(.v 16)]))
 (.call 22 [(.v 13)] 1
 (.ite (.o .eq (.v 6) (.v 16))
 (.call 13 [] 1
 (.leaf [(.v 17)]))
 (.leaf [(.b false)]))))))
 (.call 21 [(.v 0), (.v 1), (.v 2), (.v 3)] 3
 (.ite (.u .not (.v 15))
 (.call 13 [] 1
 (.leaf [(.v 16)]))
 (.call 22 [(.v 13)] 1
 (.ite (.o .eq (.v 6) (.v 16))
 (.call 13 [] 1
 (.leaf [(.v 17)]))
 (.leaf [(.b false)])))))))
 (.call 21 [(.v 0), (.v 1), (.v 2), (.v 3)] 3
 (.ite (.u .not (.v 14))
 (.call 13 [] 1
 (.leaf [(.v 15)]))
 (.call 22 [(.v 12)] 1
 (.ite (.o .eq (.v 6) (.v 15))
 (.call 13 [] 1
 (.leaf [(.v 16)]))
 (.leaf [(.b false)]))))))))
 (.call 12 [(.v 0), (.v 1)] 1
 (.ite (.v 11)
 (.call 12 [(.v 2), (.v 3)] 1
 (.ite (.v 12)
 (.ite (.u .not (.o .beq (.o .eq (.v 6) (.i 0)) (.o .and (.o .eq (.v 0) (.v 2)) (.o .and (.o .eq (.v 1) (.v 3)) (.b true)))))
 (.leaf [(.b false)])
 (.call 21 [(.v 0), (.v 1), (.v 2), (.v 3)] 3
 (.ite (.u .not (.v 15))
 (.call 13 [] 1
 (.leaf [(.v 16)]))
 (.call 22 [(.v 13)] 1
 (.ite (.o .eq (.v 6) (.v 16))
 (.call 13 [] 1
 (.leaf [(.v 17)]))
 (.leaf [(.b false)]))))))
 (.call 21 [(.v 0), (.v 1), (.v 2), (.v 3)] 3
 (.ite (.u .not (.v 15))
 (.call 13 [] 1
 (.leaf [(.v 16)]))
 (.call 22 [(.v 13)] 1
 (.ite (.o .eq (.v 6) (.v 16))
 (.call 13 [] 1
 (.leaf [(.v 17)]))
 (.leaf [(.b false)])))))))
 (.call 21 [(.v 0), (.v 1), (.v 2), (.v 3)] 3
 (.ite (.u .not (.v 14))
 (.call 13 [] 1
 (.leaf [(.v 15)]))
 (.call 22 [(.v 12)] 1
 (.ite (.o .eq (.v 6) (.v 15))
 (.call 13 [] 1
 (.leaf [(.v 16)]))
 (.leaf [(.b false)])))))))))))))))))
noncomputable def k_simulatorlaw02_FracOrders : Known Tryd.prog := known mixedOk [k_frac_Cmp, k_frac_Valid, k_frac_Sub, k_simulatorlaw02_awake, k_simulatorlaw02_sign] (by decide) [] plTypes plOk inFuncs insOk 6 ⟨6, [(.g [(.ck (.int .i64)), (.ck (.int .i64))]), (.g [(.ck (.int .i64)), (.ck (.int .i64))]), (.g [(.ck (.int .i64)), (.ck (.int .i64))])], (.c (.a (.ck .bool)))⟩ (fun args w => Tryd.call6 args w) tk_simulatorlaw02_FracOrders (by kernel_rfl)
theorem k_simulatorlaw02_FracOrders_f : k_simulatorlaw02_FracOrders.con.f = 6 := rfl
theorem k_simulatorlaw02_FracOrders_F (l : List Sc) : k_simulatorlaw02_FracOrders.F l = if l.length = 6 then tk_simulatorlaw02_FracOrders.den (gam (P := Tryd.prog) [k_frac_Cmp, k_frac_Valid, k_frac_Sub, k_simulatorlaw02_awake, k_simulatorlaw02_sign]) l [] else none := rfl
def tk_simulatorlaw02_FracFloors : T (List Ex) :=
 (.call 23 [(.v 0), (.v 1), (.v 2)] 2
 (.call 24 [(.v 0), (.v 1), (.v 2)] 2
 (.ite (.o .ne (.v 3) (.v 5))
 (.leaf [(.b false)])
 (.ite (.u .not (.o .beq (.v 4) (.v 6)))
 (.leaf [(.b false)])
 (.call 26 [(.v 2), (.i 1)] 2
 (.call 25 [(.v 0), (.v 1), (.v 7), (.v 8)] 3
 (.call 10 [(.v 3), (.i 1)] 3
 (.call 26 [(.i 1), (.i 1)] 2
 (.call 19 [(.v 12), (.v 13), (.v 15), (.v 16)] 3
 (.ite (.u .not (.v 4))
 (.call 13 [] 1
 (.leaf [(.v 20)]))
 (.ite (.u .not (.v 11))
 (.call 13 [] 1
 (.leaf [(.v 20)]))
 (.ite (.u .not (.v 14))
 (.call 13 [] 1
 (.leaf [(.v 20)]))
 (.ite (.u .not (.v 19))
 (.call 13 [] 1
 (.leaf [(.v 20)]))
 (.call 20 [(.v 12), (.v 13), (.v 9), (.v 10)] 1
 (.ite (.o .le (.v 20) (.i 0))
 (.call 20 [(.v 9), (.v 10), (.v 17), (.v 18)] 1
 (.ite (.o .lt (.v 21) (.i 0))
 (.call 13 [] 1
 (.leaf [(.v 22)]))
 (.leaf [(.b false)])))
 (.leaf [(.b false)]))))))))))))))))
noncomputable def k_simulatorlaw02_FracFloors : Known Tryd.prog := known mixedOk [k_frac_Floor, k_simulatorref02_Floor, k_simulatorlaw02_of, k_frac_Mul, k_frac_Of, k_frac_Add, k_simulatorlaw02_awake, k_frac_Cmp] (by decide) [] plTypes plOk inFuncs insOk 6 ⟨7, [(.g [(.ck (.int .i64)), (.ck (.int .i64))]), (.a (.ck (.int .i64)))], (.c (.a (.ck .bool)))⟩ (fun args w => Tryd.call7 args w) tk_simulatorlaw02_FracFloors (by kernel_rfl)
theorem k_simulatorlaw02_FracFloors_f : k_simulatorlaw02_FracFloors.con.f = 7 := rfl
theorem k_simulatorlaw02_FracFloors_F (l : List Sc) : k_simulatorlaw02_FracFloors.F l = if l.length = 3 then tk_simulatorlaw02_FracFloors.den (gam (P := Tryd.prog) [k_frac_Floor, k_simulatorref02_Floor, k_simulatorlaw02_of, k_frac_Mul, k_frac_Of, k_frac_Add, k_simulatorlaw02_awake, k_frac_Cmp]) l [] else none := rfl
def tk_simulatorlaw02_FracExact : T (List Ex) :=
 (.call 19 [(.v 0), (.v 1), (.v 2), (.v 3)] 3
 (.call 27 [(.v 0), (.v 1), (.v 2), (.v 3)] 3
 (.call 21 [(.v 0), (.v 1), (.v 2), (.v 3)] 3
 (.call 28 [(.v 0), (.v 1), (.v 2), (.v 3)] 3
 (.ite (.u .not (.o .and (.o .eq (.v 4) (.v 7)) (.o .and (.o .eq (.v 5) (.v 8)) (.b true))))
 (.leaf [(.b false)])
 (.ite (.u .not (.o .beq (.v 6) (.v 9)))
 (.leaf [(.b false)])
 (.ite (.u .not (.o .and (.o .eq (.v 10) (.v 13)) (.o .and (.o .eq (.v 11) (.v 14)) (.b true))))
 (.leaf [(.b false)])
 (.ite (.u .not (.o .beq (.v 12) (.v 15)))
 (.leaf [(.b false)])
 (.call 25 [(.v 0), (.v 1), (.v 2), (.v 3)] 3
 (.call 29 [(.v 0), (.v 1), (.v 2), (.v 3)] 3
 (.call 30 [(.v 0), (.v 1), (.v 2), (.v 3)] 3
 (.call 31 [(.v 0), (.v 1), (.v 2), (.v 3)] 3
 (.ite (.o .and (.o .eq (.v 16) (.v 19)) (.o .and (.o .eq (.v 17) (.v 20)) (.b true)))
 (.ite (.o .beq (.v 18) (.v 21))
 (.ite (.o .and (.o .eq (.v 22) (.v 25)) (.o .and (.o .eq (.v 23) (.v 26)) (.b true)))
 (.ite (.o .beq (.v 24) (.v 27))
 (.call 20 [(.v 0), (.v 1), (.v 2), (.v 3)] 1
 (.call 32 [(.v 0), (.v 1), (.v 2), (.v 3)] 1
 (.ite (.o .eq (.v 28) (.v 29))
 (.call 13 [] 1
 (.leaf [(.v 30)]))
 (.leaf [(.b false)]))))
 (.leaf [(.b false)]))
 (.leaf [(.b false)]))
 (.leaf [(.b false)]))
 (.leaf [(.b false)]))))))))))))))
noncomputable def k_simulatorlaw02_FracExact : Known Tryd.prog := known mixedOk [k_frac_Add, k_simulatorref02_Add, k_frac_Sub, k_simulatorref02_Sub, k_frac_Mul, k_simulatorref02_Mul, k_frac_Div, k_simulatorref02_Div, k_frac_Cmp, k_simulatorref02_Cmp, k_simulatorlaw02_awake] (by decide) [] plTypes plOk inFuncs insOk 6 ⟨8, [(.g [(.ck (.int .i64)), (.ck (.int .i64))]), (.g [(.ck (.int .i64)), (.ck (.int .i64))])], (.c (.a (.ck .bool)))⟩ (fun args w => Tryd.call8 args w) tk_simulatorlaw02_FracExact (by kernel_rfl)
theorem k_simulatorlaw02_FracExact_f : k_simulatorlaw02_FracExact.con.f = 8 := rfl
theorem k_simulatorlaw02_FracExact_F (l : List Sc) : k_simulatorlaw02_FracExact.F l = if l.length = 4 then tk_simulatorlaw02_FracExact.den (gam (P := Tryd.prog) [k_frac_Add, k_simulatorref02_Add, k_frac_Sub, k_simulatorref02_Sub, k_frac_Mul, k_simulatorref02_Mul, k_frac_Div, k_simulatorref02_Div, k_frac_Cmp, k_simulatorref02_Cmp, k_simulatorlaw02_awake]) l [] else none := rfl
end Go.Proofs.YtkjgcalkkfgmlaaDoor
