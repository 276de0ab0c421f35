/-
  How the arguments of the laws come in: each value's form, and its range.
-/
import Derived.Test.YtjfhhlfjfcgcmaaOwn
import Derived.Lib.SmallJoins
namespace Go.Proofs.Ytjfhhlfjfcgcmaa
open Go.ChangeShapes Go.WideShapes Go.ChangeAt Go.RowKit

def R64 (x : Int) : Prop := 0 ≤ x ∧ x < 18446744073709551616
def I64 (x : Int) : Prop := -9223372036854775808 ≤ x ∧ x < 9223372036854775808
section
variable {P : Program} {W : World} {r : Reach} {base : Nat} {t : TypeId} {v : Value} {H : Type} {enc : TypeId × Value → H} {b0 : Nat} {spare : Nat → Bool} {held : Bool} {d : DataW H} {p : List MemPlace}
theorem wf_u64 {x : Int} (h : (Lit.int .u64 x).wf = true) : R64 x := by
  simp [Lit.wf, IntKind.min, IntKind.max, IntKind.signed, IntKind.bits] at h
  exact ⟨by omega, by omega⟩
theorem wf_i64 {x : Int} (h : (Lit.int .i64 x).wf = true) : I64 x := by
  simp [Lit.wf, IntKind.min, IntKind.max, IntKind.signed, IntKind.bits] at h
  exact ⟨by omega, by omega⟩
theorem wf_u8 {x : Int} (h : (Lit.int .u8 x).wf = true) : 0 ≤ x ∧ x < 256 := by
  simp [Lit.wf, IntKind.min, IntKind.max, IntKind.signed, IntKind.bits] at h
  exact ⟨by omega, by omega⟩
theorem open_u64 (hu : P.underlying t = some (.int .u64)) (ok : Value.okWide P W r base t v) (h : DataW.Trod enc P W b0 spare held t v d p) : ∃ x, v = .int .u64 x ∧ R64 x := by
  obtain ⟨x, e, _, _, hw⟩ := open_int hu ok h
  exact ⟨x, e, wf_u64 hw⟩
theorem open_i64 (hu : P.underlying t = some (.int .i64)) (ok : Value.okWide P W r base t v) (h : DataW.Trod enc P W b0 spare held t v d p) : ∃ x, v = .int .i64 x ∧ I64 x := by
  obtain ⟨x, e, _, _, hw⟩ := open_int hu ok h
  exact ⟨x, e, wf_i64 hw⟩
theorem open_u8 (hu : P.underlying t = some (.int .u8)) (ok : Value.okWide P W r base t v) (h : DataW.Trod enc P W b0 spare held t v d p) : ∃ x, v = .int .u8 x ∧ 0 ≤ x ∧ x < 256 := by
  obtain ⟨x, e, _, _, hw⟩ := open_int hu ok h
  exact ⟨x, e, (wf_u8 hw).1, (wf_u8 hw).2⟩
theorem open_str (hu : P.underlying t = some .string) (ok : Value.okWide P W r base t v) (h : DataW.Trod enc P W b0 spare held t v d p) : ∃ s, v = .string s := by
  obtain ⟨s, e, _⟩ := Go.ChangeMaps.open_string hu ok h
  exact ⟨s, e⟩
theorem open_stream {f0 f1 f2 : Field} (hs : P.underlying t = some (.struct #[f0, f1, f2])) (hone : Deep.oneCellFields P #[f0, f1, f2] = true) (hC : P.cellsOf t = 3)
    (u0 : P.underlying f0.type = some (.int .u64)) (u1 : P.underlying f1.type = some (.int .i64)) (u2 : P.underlying f2.type = some .bool)
    (ok : Value.okWide P W r base t v) (h : DataW.Trod enc P W b0 spare held t v d p) : ∃ k q b, v = .agg #[.int .u64 k, .int .i64 q, .bool b] ∧ R64 k ∧ I64 q := by
  obtain ⟨c0, c1, c2, y0, y1, y2, m, rfl, _, _, h0, h1, h2⟩ := Joins.open_agg3 hs hone hC ok h
  obtain ⟨k, e0, _, w0⟩ := DataW.trod_int u0 h0
  obtain ⟨q, e1, _, w1⟩ := DataW.trod_int u1 h1
  obtain ⟨b, e2, _⟩ := DataW.trod_bool u2 h2
  simp at e0 e1 e2
  subst e0 e1 e2
  exact ⟨k, q, b, rfl, wf_u64 w0, wf_i64 w1⟩
end
end Go.Proofs.Ytjfhhlfjfcgcmaa
