/-
  How the arguments of the laws come in: each value as plain data.
-/
import Derived.Test.YtkjgcalkkfgmlaaDoorSymX
import Derived.Lib.SmallJoins
import Derived.DataShut
import Derived.OpenShut
namespace Go.Proofs.YtkjgcalkkfgmlaaDoor
open Go.ChangeShapes Go.WideShapes Go.ChangeAt Go.RowKit

/-- The cells of a type. -/
def flatFs (flat : TypeId → Option (List CK)) (cells : TypeId → Nat) : List Field → Nat → Option (List CK)
  | [], _ => some []
  | f :: fs, n => match flat f.type with
    | some ks => if f.offset = n ∧ cells f.type = ks.length then (flatFs flat cells fs (n + ks.length)).map (ks ++ ·) else none
    | none => none
def flat (P : Program) : Nat → TypeId → Option (List CK)
  | 0, _ => none
  | d + 1, t => match P.underlying t with
    | some (.int k) => some [.int k]
    | some .bool => some [.bool]
    | some .string => some [.str]
    | some (.struct fs) => match flatFs (flat P d) P.cellsOf fs.toList 0 with
      | some ks => if P.cellsOf t = ks.length then some ks else none
      | none => none
    | some (.array n e) => match flat P d e with
      | some ks => if P.cellsOf e = ks.length ∧ P.cellsOf t = n * ks.length then some (List.replicate n ks).flatten else none
      | none => none
    | _ => none
/-- A datum that may stand in a cell. -/
def fits : CK → Sc → Prop
  | .int k, y => ∃ n, y = .i n ∧ (Lit.int k n).wf = true
  | .bool, y => ∃ b, y = .b b
  | .str, y => ∃ s, y = .s s ∧ s.size ≤ maxLen
def fitsL : List CK → List Sc → Prop
  | [], [] => True
  | k :: ks, y :: ys => fits k y ∧ fitsL ks ys
  | _, _ => False
theorem fitsL_append : ∀ {ks ks' : List CK} {ys ys' : List Sc}, fitsL ks ys → fitsL ks' ys' → fitsL (ks ++ ks') (ys ++ ys')
  | [], _, [], _, _, h => h
  | _ :: _, _, _ :: _, _, h, h' => ⟨h.1, fitsL_append h.2 h'⟩
  | [], _, _ :: _, _, h, _ => h.elim
  | _ :: _, _, [], _, h, _ => h.elim
theorem fitsL_len : ∀ {ks : List CK} {ys : List Sc}, fitsL ks ys → ys.length = ks.length
  | [], [], _ => rfl
  | _ :: _, _ :: _, h => by simp [fitsL_len h.2]
  | [], _ :: _, h => h.elim
  | _ :: _, [], h => h.elim

theorem fitsL_int {k : IntKind} {ks : List CK} {ys : List Sc} (h : fitsL (.int k :: ks) ys) : ∃ n r, ys = .i n :: r ∧ (Lit.int k n).wf = true ∧ fitsL ks r := by
  cases ys with
  | nil => exact h.elim
  | cons y r => obtain ⟨⟨n, rfl, hw⟩, hr⟩ := h; exact ⟨n, r, rfl, hw, hr⟩
theorem fitsL_bool {ks : List CK} {ys : List Sc} (h : fitsL (.bool :: ks) ys) : ∃ n r, ys = .b n :: r ∧ fitsL ks r := by
  cases ys with
  | nil => exact h.elim
  | cons y r => obtain ⟨⟨n, rfl⟩, hr⟩ := h; exact ⟨n, r, rfl, hr⟩
theorem fitsL_str {ks : List CK} {ys : List Sc} (h : fitsL (.str :: ks) ys) : ∃ n r, ys = .s n :: r ∧ n.size ≤ maxLen ∧ fitsL ks r := by
  cases ys with
  | nil => exact h.elim
  | cons y r => obtain ⟨⟨n, rfl, hw⟩, hr⟩ := h; exact ⟨n, r, rfl, hw, hr⟩
theorem fitsL_nil {ys : List Sc} (h : fitsL [] ys) : ys = [] := by
  cases ys with
  | nil => rfl
  | cons y r => exact h.elim

section
variable {P : Program} {w : World} {base : Nat} {H : Type} {enc : TypeId × Value → H} {spare : Nat → Bool} {held : Bool}

theorem flat_trod : ∀ {d : Nat} {t : TypeId} {ks : List CK} {fuel : Nat} {cs : List Value} {x : DataW H × List MemPlace}, flat P d t = some ks → DataW.trod enc P w base spare held fuel t cs = some x → ∃ ys, fitsL ks ys ∧ cs = List.zipWith CK.val ks ys
  | 0, _, _, _, _, _, h, _ => by simp [flat] at h
  | d + 1, t, ks, fuel, cs, x, h, hx => by
    simp only [flat] at h
    split at h
    · rename_i k hu
      cases h
      obtain ⟨n, rfl, _, hw⟩ := DataW.trod_int hu hx
      exact ⟨[.i n], ⟨⟨n, rfl, hw⟩, trivial⟩, rfl⟩
    · rename_i hu
      cases h
      obtain ⟨b, rfl, _⟩ := DataW.trod_bool hu hx
      exact ⟨[.b b], ⟨⟨b, rfl⟩, trivial⟩, rfl⟩
    · rename_i hu
      cases h
      obtain ⟨s, rfl, _, hs⟩ := DataW.trod_string hu hx
      exact ⟨[.s s], ⟨⟨s, rfl, hs⟩, trivial⟩, rfl⟩
    · rename_i fs hu
      split at h
      · rename_i ks' hks
        split at h
        · rename_i hc
          cases h
          obtain ⟨xs, n, _, _, hl, hlen, hf⟩ := DataW.trod_struct hu hx
          have hfs : ∀ (l : List Field) (m : Nat) (ks : List CK) (i : Nat), flatFs (flat P d) P.cellsOf l m = some ks → (∀ j f, l[j]? = some f → fs[i + j]? = some f) → ∃ ys, fitsL ks ys ∧ (cs.drop m).take ks.length = List.zipWith CK.val ks ys ∧ (m + ks.length ≤ cs.length ∨ ks = []) := by
            intro l
            induction l with
            | nil =>
              intro m ks i hk _
              simp only [flatFs, Option.some.injEq] at hk
              subst hk
              exact ⟨[], trivial, by simp, .inr rfl⟩
            | cons f l ih =>
              intro m ks i hk hi
              simp only [flatFs] at hk
              split at hk
              · rename_i k1 hk1
                split at hk
                · rename_i hoff
                  obtain ⟨k2, hk2, rfl⟩ := Option.map_eq_some_iff.1 hk
                  have hfi := hi 0 f rfl
                  rw [Nat.add_zero] at hfi
                  have hlt : i < fs.size := (Array.getElem?_eq_some_iff.1 hfi).1
                  have := hf i f hfi
                  rw [List.getElem?_eq_getElem (by omega)] at this
                  obtain ⟨y1, f1, e1⟩ := flat_trod hk1 this
                  obtain ⟨y2, f2, e2, b2⟩ := ih (m + k1.length) k2 (i + 1) hk2 (fun j g hj => by
                    have := hi (j + 1) g (by simpa using hj)
                    rw [show i + 1 + j = i + (j + 1) by omega]; exact this)
                  rw [hoff.1, hoff.2] at e1
                  have l1 : ((cs.drop m).take k1.length).length = k1.length := by rw [e1]; simp [fitsL_len f1]
                  have hb : k1.length ≤ (cs.drop m).length := by rw [List.length_take] at l1; omega
                  refine ⟨y1 ++ y2, fitsL_append f1 f2, ?_, ?_⟩
                  · rw [List.length_append, List.zipWith_append (by rw [fitsL_len f1]), ← e1, ← e2, ← List.drop_drop, List.take_add]
                  · by_cases h0 : k1 ++ k2 = []
                    · exact .inr h0
                    · left
                      rw [List.length_append]
                      rcases b2 with h | h
                      · omega
                      · subst h
                        simp only [List.append_nil] at h0
                        have : 0 < k1.length := List.length_pos_iff.2 h0
                        rw [List.length_drop] at hb
                        simp; omega
                · cases hk
              · cases hk
          obtain ⟨ys, f1, e1, _⟩ := hfs fs.toList 0 ks 0 hks (fun j f hj => by simpa using hj)
          refine ⟨ys, f1, ?_⟩
          rw [← e1, List.drop_zero, List.take_of_length_le (by omega)]
        · cases h
      · cases h
    · rename_i n e hu
      split at h
      · rename_i ks' hks
        split at h
        · rename_i hc
          cases h
          obtain ⟨xs, m, _, _, hl, hlen, hf⟩ := DataW.trod_array hu hx
          have key : ∀ i, i ≤ n → ∃ ys, fitsL (List.replicate i ks').flatten ys ∧ cs.take (i * ks'.length) = List.zipWith CK.val (List.replicate i ks').flatten ys := by
            intro i
            induction i with
            | zero => intro _; exact ⟨[], trivial, by simp⟩
            | succ i ih =>
              intro hi
              obtain ⟨ys, f1, e1⟩ := ih (by omega)
              have := hf i (by omega)
              rw [List.getElem?_eq_getElem (by omega)] at this
              obtain ⟨y2, f2, e2⟩ := flat_trod hks this
              rw [hc.1] at e2
              refine ⟨ys ++ y2, ?_, ?_⟩
              · rw [List.replicate_succ', List.flatten_append, List.flatten_singleton]; exact fitsL_append f1 f2
              · rw [List.replicate_succ', List.flatten_append, List.flatten_singleton, List.zipWith_append (by rw [fitsL_len f1]), ← e1, ← e2, Nat.succ_mul, List.take_add]
          obtain ⟨ys, f1, e1⟩ := key n (Nat.le_refl _)
          refine ⟨ys, f1, ?_⟩
          rw [← e1, List.take_of_length_le (by omega)]
        · cases h
      · cases h
    · cases h

theorem asRelL_of {ok : Nat → Prop} : ∀ {ks : List CK} {ys : List Sc}, fitsL ks ys → asRelL w ok (ks.map .ck) (List.zipWith CK.val ks ys) ys
  | [], [], _ => trivial
  | _ :: _, _ :: _, h => ⟨rfl, asRelL_of h.2⟩
  | [], _ :: _, h => h.elim
  | _ :: _, [], h => h.elim

/-- A struct. -/
theorem open_g {r : Reach} {b0 : Nat} {t : TypeId} {v : Value} {d : DataW H} {p : List MemPlace} {ks : List CK} {fs : Array Field} (hu : P.underlying t = some (.struct fs)) (hk : flat P 4 t = some ks) (ok : Value.okWide P w r b0 t v) (h : DataW.Trod enc P w base spare held t v d p) :
    ∃ ys, fitsL ks ys ∧ csRel w (fun _ => True) (.g (ks.map .ck)) v ys := by
  obtain ⟨cs, rfl, _⟩ := okWide_struct hu ok
  obtain ⟨fuel, hf⟩ := h
  obtain ⟨ys, hy, e⟩ := flat_trod hk hf
  have e : cs.toList = List.zipWith CK.val ks ys := e
  exact ⟨ys, hy, _, by rw [← e], asRelL_of hy⟩
/-- An array. -/
theorem open_arr {r : Reach} {b0 n : Nat} {t e : TypeId} {v : Value} {d : DataW H} {p : List MemPlace} {ks : List CK} (hu : P.underlying t = some (.array n e)) (hk : flat P 4 t = some ks) (ok : Value.okWide P w r b0 t v) (h : DataW.Trod enc P w base spare held t v d p) :
    ∃ ys, fitsL ks ys ∧ csRel w (fun _ => True) (.g (ks.map .ck)) v ys := by
  obtain ⟨cs, rfl⟩ : ∃ cs, v = .agg cs := by
    simp only [Value.okWide, hu] at ok
    obtain ⟨cs, h1, _⟩ := ok
    exact ⟨cs, h1⟩
  obtain ⟨fuel, hf⟩ := h
  obtain ⟨ys, hy, e⟩ := flat_trod hk hf
  have e : cs.toList = List.zipWith CK.val ks ys := e
  exact ⟨ys, hy, _, by rw [← e], asRelL_of hy⟩
/-- A single cell. -/
theorem open_a {r : Reach} {b0 : Nat} {t : TypeId} {v : Value} {d : DataW H} {p : List MemPlace} {k : CK} (hk : flat P 1 t = some [k]) (ok : Value.okWide P w r b0 t v) (h : DataW.Trod enc P w base spare held t v d p) :
    ∃ y, fits k y ∧ csRel w (fun _ => True) (.a (.ck k)) v [y] := by
  have hv : v.cells.toList = [v] := by
    simp only [flat] at hk
    simp only [Value.okWide] at ok
    split at hk <;> rename_i hu <;> (try simp only [hu] at ok)
    · cases v <;> simp_all [Cell.okWide, Cell.ok, Value.cells]
    · cases v <;> simp_all [Cell.okWide, Cell.ok, Value.cells]
    · cases v <;> simp_all [Cell.okWide, Cell.ok, Value.cells]
    · rename_i fs
      cases hfs : fs.toList with
      | nil => simp [hfs, flatFs] at hk
      | cons f l => simp [hfs, flatFs] at hk
    · cases hk
    · cases hk
  obtain ⟨fuel, hf⟩ := h
  obtain ⟨ys, hy, e⟩ := flat_trod hk hf
  match ys, hy with
  | [y], hy =>
    rw [hv] at e
    simp at e
    exact ⟨y, hy.1, y, rfl, e⟩
end

/-- A law of which the tree says true. -/
theorem law_call {P : Program} [Glob P] (k : Known P) {w : World} {vs : List Value} {l : List Sc} (hcall : (callFunc k.con.f vs.toArray).run P w = .ok (.enter k.con.f vs.toArray) w) (hargs : csRelL w (fun _ => True) k.con.args vs l) (hF : k.F l = some [.b true]) (hres : k.con.res = .c (.a (.ck .bool))) (hG : Glob.G P w := by exact True.intro) :
    Calls P k.con.f vs.toArray w fun e w' => e = .returned (.bool true) ∧ Below w.heap.size w w' := by
  rcases k.holds w hG vs l _ hargs hF with ⟨_, h⟩ | ⟨v, w', h, _⟩
  rotate_left
  · rw [hcall] at h; cases h
  refine h.mono ?_
  rintro e w' ⟨v, rfl, hb, hr⟩
  rw [hres] at hr
  obtain ⟨x, ex, hx⟩ := hr
  cases ex
  have hx : v = .bool true := hx
  exact ⟨by rw [hx], hb⟩
theorem wf_i64 {n : Int} (h : (Lit.int .i64 n).wf = true) : -9223372036854775808 ≤ n ∧ n < 9223372036854775808 := by
  have h := (Lit.wf_int_iff _ _).1 h
  have e1 : IntKind.i64.min = -9223372036854775808 := by decide
  have e2 : IntKind.i64.max = 9223372036854775807 := by decide
  omega
theorem wf_i16 {n : Int} (h : (Lit.int .i16 n).wf = true) : -32768 ≤ n ∧ n ≤ 32767 := by
  have h := (Lit.wf_int_iff _ _).1 h
  have e1 : IntKind.i16.min = -32768 := by decide
  have e2 : IntKind.i16.max = 32767 := by decide
  omega
theorem wf_u64 {n : Int} (h : (Lit.int .u64 n).wf = true) : ∃ m : Nat, n = m ∧ m < 18446744073709551616 := by
  have h := (Lit.wf_int_iff _ _).1 h
  have e1 : IntKind.u64.min = 0 := by decide
  have e2 : IntKind.u64.max = 18446744073709551615 := by decide
  exact ⟨n.toNat, by omega, by omega⟩
theorem wf_u16 {n : Int} (h : (Lit.int .u16 n).wf = true) : ∃ m : Nat, n = m ∧ m < 65536 := by
  have h := (Lit.wf_int_iff _ _).1 h
  have e1 : IntKind.u16.min = 0 := by decide
  have e2 : IntKind.u16.max = 65535 := by decide
  exact ⟨n.toNat, by omega, by omega⟩
theorem wf_u8 {n : Int} (h : (Lit.int .u8 n).wf = true) : ∃ m : Nat, n = m ∧ m < 256 := by
  have h := (Lit.wf_int_iff _ _).1 h
  have e1 : IntKind.u8.min = 0 := by decide
  have e2 : IntKind.u8.max = 255 := by decide
  exact ⟨n.toNat, by omega, by omega⟩
theorem args3 {w : World} {ok : Nat → Prop} {s s' s'' : CS} {v v' v'' : Value} {l l' l'' : List Sc} (h : csRel w ok s v l) (h' : csRel w ok s' v' l') (h'' : csRel w ok s'' v'' l'') : csRelL w ok [s, s', s''] [v, v', v''] (l ++ (l' ++ l'')) := ⟨l, l' ++ l'', rfl, h, l', l'', rfl, h', l'', [], by simp, h'', rfl⟩
theorem args1 {w : World} {ok : Nat → Prop} {s : CS} {v : Value} {l : List Sc} (h : csRel w ok s v l) : csRelL w ok [s] [v] l := ⟨l, [], by simp, h, rfl⟩
theorem args2 {w : World} {ok : Nat → Prop} {s s' : CS} {v v' : Value} {l l' : List Sc} (h : csRel w ok s v l) (h' : csRel w ok s' v' l') : csRelL w ok [s, s'] [v, v'] (l ++ l') := ⟨l, l', rfl, h, args1 h'⟩
end Go.Proofs.YtkjgcalkkfgmlaaDoor
