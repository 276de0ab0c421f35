/-
  What FracField reckons: its tree, checked by the kernel. Printed by a program of mine.
-/
import Derived.Test.YtkjgcalkkfgmlaaDoorK02
namespace Go.Proofs.YtkjgcalkkfgmlaaDoor
open Go.RowKit
instance mrgField : Mrg Tryd.prog := ⟨[9]⟩
def tk_simulatorlaw02_FracField : T (List Ex) :=
 (.call 19 [(.v 0), (.v 1), (.v 2), (.v 3)] 3
 (.call 19 [(.v 2), (.v 3), (.v 0), (.v 1)] 3
 (.call 25 [(.v 0), (.v 1), (.v 2), (.v 3)] 3
 (.call 25 [(.v 2), (.v 3), (.v 0), (.v 1)] 3
 (.ite (.t .ite (.u .not (.o .and (.o .eq (.v 6) (.v 9)) (.o .and (.o .eq (.v 7) (.v 10)) (.b true)))) (.b true) (.t .ite (.u .not (.o .beq (.v 8) (.v 11))) (.b true) (.t .ite (.u .not (.o .and (.o .eq (.v 12) (.v 15)) (.o .and (.o .eq (.v 13) (.v 16)) (.b true)))) (.b true) (.u .not (.o .beq (.v 14) (.v 17))))))
 (.leaf [(.b false)])
 (.call 21 [(.v 6), (.v 7), (.v 2), (.v 3)] 3
 (.call 30 [(.v 12), (.v 13), (.v 2), (.v 3)] 3
 (.ite (.t .ite (.v 8) (.t .ite (.u .not (.o .and (.o .eq (.v 18) (.v 0)) (.o .and (.o .eq (.v 19) (.v 1)) (.b true)))) (.b true) (.t .ite (.u .not (.v 20)) (.b true) (.t .ite (.v 14) (.t .ite (.o .ne (.v 2) (.i 0)) (.t .ite (.u .not (.o .and (.o .eq (.v 21) (.v 0)) (.o .and (.o .eq (.v 22) (.v 1)) (.b true)))) (.b true) (.u .not (.v 23))) (.b false)) (.b false)))) (.t .ite (.v 14) (.t .ite (.o .ne (.v 2) (.i 0)) (.t .ite (.u .not (.o .and (.o .eq (.v 21) (.v 0)) (.o .and (.o .eq (.v 22) (.v 1)) (.b true)))) (.b true) (.u .not (.v 23))) (.b false)) (.b false)))
 (.leaf [(.b false)])
 (.call 19 [(.v 2), (.v 3), (.v 4), (.v 5)] 3
 (.call 19 [(.v 6), (.v 7), (.v 4), (.v 5)] 3
 (.call 19 [(.v 0), (.v 1), (.v 24), (.v 25)] 3
 (.ite (.t .ite (.v 8) (.t .ite (.v 26) (.t .ite (.v 29) (.t .ite (.v 32) (.u .not (.o .and (.o .eq (.v 27) (.v 30)) (.o .and (.o .eq (.v 28) (.v 31)) (.b true)))) (.b false)) (.b false)) (.b false)) (.b false))
 (.leaf [(.b false)])
 (.call 25 [(.v 0), (.v 1), (.v 4), (.v 5)] 3
 (.call 25 [(.v 0), (.v 1), (.v 24), (.v 25)] 3
 (.call 19 [(.v 12), (.v 13), (.v 33), (.v 34)] 3
 (.ite (.u .not (.v 26))
 (.call 13 [] 1
 (.leaf [(.v 42)]))
 (.ite (.u .not (.v 14))
 (.call 13 [] 1
 (.leaf [(.v 42)]))
 (.ite (.u .not (.v 35))
 (.call 13 [] 1
 (.leaf [(.v 42)]))
 (.ite (.u .not (.v 38))
 (.call 13 [] 1
 (.leaf [(.v 42)]))
 (.ite (.u .not (.v 41))
 (.call 13 [] 1
 (.leaf [(.v 42)]))
 (.ite (.o .and (.o .eq (.v 36) (.v 39)) (.o .and (.o .eq (.v 37) (.v 40)) (.b true)))
 (.call 13 [] 1
 (.leaf [(.v 42)]))
 (.leaf [(.b false)]))))))))))))))))))))))
noncomputable def k_simulatorlaw02_FracField : Known Tryd.prog := known mixedOk [k_frac_Add, k_frac_Mul, k_frac_Sub, k_frac_Div, k_simulatorlaw02_awake] (by decide) [] plTypes plOk inFuncs insOk 6 ⟨9, [(.g [(.ck (.int .i64)), (.ck (.int .i64))]), (.g [(.ck (.int .i64)), (.ck (.int .i64))]), (.g [(.ck (.int .i64)), (.ck (.int .i64))])], (.c (.a (.ck .bool)))⟩ (fun args w => Tryd.call9 args w) tk_simulatorlaw02_FracField (by kernel_rfl)
theorem k_simulatorlaw02_FracField_f : k_simulatorlaw02_FracField.con.f = 9 := rfl
theorem k_simulatorlaw02_FracField_F (l : List Sc) : k_simulatorlaw02_FracField.F l = if l.length = 6 then tk_simulatorlaw02_FracField.den (gam (P := Tryd.prog) [k_frac_Add, k_frac_Mul, k_frac_Sub, k_frac_Div, k_simulatorlaw02_awake]) l [] else none := rfl
end Go.Proofs.YtkjgcalkkfgmlaaDoor
