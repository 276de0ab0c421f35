/-
  The worked examples of chapter 3 hold.
-/
import Derived.Test.YtjfhhlfjfcgcmaaStreamRef
namespace Go.Proofs.Ytjfhhlfjfcgcmaa
open Go.ChangeShapes Go.WideShapes Go.ChangeAt Go.RowKit

theorem ex1 : mixZ 0 = 0 := by decide +kernel
theorem ex2 : nextU 0 0 false = 16294208416658607535 := by decide +kernel
theorem ex3 : nextP 0 = 1 := by decide +kernel
theorem ex4 : nextU 0 1 false = 7960286522194355700 := by decide +kernel
theorem ex5 : nextP 1 = 2 := by decide +kernel
theorem ex6 : skipP 0 2 = 2 := by decide +kernel
theorem ex7 : nextU 0 2 false = 487617019471545679 := by decide +kernel
theorem ex8 : nextP 2 = 3 := by decide +kernel
theorem ex9 : belI 0 0 false 256 = 226 := by decide +kernel
theorem ex10 : belP 0 256 = 1 := by decide +kernel
theorem ex11 : badB 0 256 = false := by decide +kernel
theorem ex12 : mirB 0 false = true := by decide +kernel
theorem ex13 : belI 0 0 true 256 = 29 := by decide +kernel
theorem ex14 : badB 1000000000000 10 = true := by decide +kernel
theorem ex15 : newK 0 [] = 16294208416658607535 := by decide +kernel
theorem ex16 : chk (-1) = 2 := by decide +kernel

set_option maxHeartbeats 1000000 in
theorem awake_f : Pure Try.prog 12 #[] (.bool true) := by
  intro w0
  have hst := St.start w0
  have h1 := ex1
  have h2 := ex2
  have h3 := ex3
  have h4 := ex4
  have h5 := ex5
  have h6 := ex6
  have h7 := ex7
  have h8 := ex8
  have h9 := ex9
  have h10 := ex10
  have h11 := ex11
  have h12 := ex12
  have h13 := ex13
  have h14 := ex14
  have h15 := ex15
  have h16 := ex16
  go_enter Try.func12, Try.ntmps12
  go_wp2_with (first | (refine own_field rfl rfl rfl rfl ?_) | (refine own_load hst rfl rfl rfl rfl ?_) | (refine own_load1 hst rfl rfl rfl rfl ?_) | (refine own_storeA hst rfl rfl rfl rfl rfl rfl rfl rfl ?_; clear hst; intro w hst) | (refine own_alloc hst rfl rfl ?_; clear hst; intro b w hst) | (go_at_call 17; refine (next_f _).mono ?_; rintro e w ⟨rfl, hb⟩; have hst := hst.call hb; clear hb) | (go_at_call 16; refine (skip_f _).mono ?_; rintro e w ⟨rfl, hb⟩; have hst := hst.call hb; clear hb) | (go_at_call 18; refine (below_f _).mono ?_; rintro e w ⟨rfl, hb⟩; have hst := hst.call hb; clear hb) | (go_at_call 25; refine (mirror_f _).mono ?_; rintro e w ⟨rfl, hb⟩; have hst := hst.call hb; clear hb) | (go_at_call 10; refine (mix_f _).mono ?_; rintro e w ⟨rfl, hb⟩; have hst := hst.call hb; clear hb) | (go_at_call 13; refine (new_f (s := ⟨#[]⟩) (by decide) _).mono ?_; rintro e w ⟨rfl, hb⟩; have hst := hst.call hb; clear hb) | (go_at_call 15; refine (check_f _).mono ?_; rintro e w ⟨rfl, hb⟩; have hst := hst.call hb; clear hb))
  go_ret
  exact ⟨rfl, hst.below⟩
end Go.Proofs.Ytjfhhlfjfcgcmaa
