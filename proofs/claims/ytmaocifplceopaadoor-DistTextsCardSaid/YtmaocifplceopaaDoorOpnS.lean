/-
  How structs with strings and slices come in.
-/
import Derived.Test.YtmaocifplceopaaDoorOpnR
namespace Go.Proofs.YtmaocifplceopaaDoor
open Go.ChangeShapes Go.WideShapes Go.ChangeAt Go.RowKit

/-- The atoms of a type: cells, strings, slices of scalars. -/
def shapeFs (sh : TypeId → Option (List AS)) (cells : TypeId → Nat) : List Field → Nat → Option (List AS)
  | [], _ => some []
  | f :: fs, n => match sh f.type with
    | some ks => if f.offset = n ∧ cells f.type = ks.length then (shapeFs sh cells fs (n + ks.length)).map (ks ++ ·) else none
    | none => none
def aggB (P : Program) (e : TypeId) : Bool := match P.underlying e with | some (.struct _) => true | some (.array _ _) => true | _ => false
def shape (P : Program) : Nat → TypeId → Option (List AS)
  | 0, _ => none
  | d + 1, t => match P.underlying t with
    | some (.int k) => some [.ck (.int k)]
    | some .bool => some [.ck .bool]
    | some .string => some [.ck .str]
    | some (.slice e) => match flat P 4 e with
      | some ks => if okFormB (aggB P e) ks = true ∧ P.cellsOf e = ks.length then some [.row e ks (aggB P e)] else none
      | none => none
    | some (.struct fs) => match shapeFs (shape P d) P.cellsOf fs.toList 0 with
      | some ks => if P.cellsOf t = ks.length then some ks else none
      | none => none
    | _ => none
def fitA : AS → Sc → Prop
  | .ck k, y => fits k y
  | .row _ ks agg, y => ∃ yss : List (List Sc), (∀ ys ∈ yss, fitsL ks ys) ∧ yss.length ≤ maxLen ∧ y = .l (yss.map (elSc agg))
def fitAL : List AS → List Sc → Prop
  | [], [] => True
  | k :: ks, y :: ys => fitA k y ∧ fitAL ks ys
  | _, _ => False
theorem fitAL_append : ∀ {ks ks' : List AS} {ys ys' : List Sc}, fitAL ks ys → fitAL ks' ys' → fitAL (ks ++ ks') (ys ++ ys')
  | [], _, [], _, _, h => h
  | _ :: _, _, _ :: _, _, h, h' => ⟨h.1, fitAL_append h.2 h'⟩
  | [], _, _ :: _, _, h, _ => h.elim
  | _ :: _, _, [], _, h, _ => h.elim
theorem asRelL_app {w : World} {ok : Nat → Prop} : ∀ {ks ks' : List AS} {vs vs' : List Value} {ys ys' : List Sc}, asRelL w ok ks vs ys → asRelL w ok ks' vs' ys' → asRelL w ok (ks ++ ks') (vs ++ vs') (ys ++ ys')
  | [], _, [], _, [], _, _, h => h
  | _ :: _, _, _ :: _, _, _ :: _, _, h, h' => ⟨h.1, asRelL_app h.2 h'⟩
  | [], _, _ :: _, _, _, _, h, _ => by simp [asRelL] at h
  | [], _, [], _, _ :: _, _, h, _ => by simp [asRelL] at h
  | _ :: _, _, [], _, _, _, h, _ => by simp [asRelL] at h
  | _ :: _, _, _ :: _, _, [], _, h, _ => by simp [asRelL] at h
theorem asRelL_vlen {w : World} {ok : Nat → Prop} : ∀ {ks : List AS} {vs : List Value} {ys : List Sc}, asRelL w ok ks vs ys → vs.length = ks.length
  | [], [], [], _ => rfl
  | _ :: _, _ :: _, _ :: _, h => by simp [asRelL_vlen h.2]
  | [], _ :: _, _, h => by simp [asRelL] at h
  | [], [], _ :: _, h => by simp [asRelL] at h
  | _ :: _, [], _, h => by simp [asRelL] at h
  | _ :: _, _ :: _, [], h => by simp [asRelL] at h
def SpotOk (v : Value) : Prop := ∀ a len cap, v = .slice (some a) len cap → a.spot = none
theorem cell_spot {P : Program} {w : World} {r : Reach} {b : Nat} {u : TypeId} {v : Value} (h : Cell.okWide P w r b u v) : SpotOk v := by
  rintro a len cap rfl
  unfold Cell.okWide at h
  split at h <;> first | (rename_i e; cases e; done) | skip
  all_goals (try (unfold Cell.ok at h; split at h <;> simp_all <;> exact h.2.2.2.1))

section
variable {P : Program} {w : World} {base : Nat} {H : Type} {enc : TypeId × Value → H} {spare : Nat → Bool} {held : Bool}
theorem row_trod {t e : TypeId} {cs : List Value} {fuel : Nat} {x : DataW H × List MemPlace} {ks : List CK} (agg : Bool) (hu : P.underlying t = some (.slice e)) (hk : flat P 4 e = some ks) (hf : okFormB agg ks = true) (hc : P.cellsOf e = ks.length)
    (hsp : ∀ v ∈ cs, SpotOk v) (ht : DataW.trod enc P w base spare held fuel t cs = some x) :
    ∃ v y, cs = [v] ∧ fitA (.row e ks agg) y ∧ asRel w (fun _ => True) (.row e ks agg) v y := by
  obtain ⟨hok, hpos⟩ := okForm_of hf
  rcases Go.Deep.open_slice hu ht with ⟨h0, _⟩ | ⟨a, len, cap, m, n, D, Pl, h0, hb, hl, hm, hmm, _, hx⟩
  · subst h0
    exact ⟨_, .l [], rfl, ⟨[], fun _ h => (by cases h), by simp [maxLen], rfl⟩, none, 0, 0, rfl, rfl, Nat.le_refl _, by simp [maxLen], fun j u hj => by simp [rowFlat] at hj⟩
  · subst h0
    have hspot : a.spot = none := hsp _ (List.mem_cons_self ..) a len cap rfl
    have hlm : len ≤ m := by rw [hmm]; split <;> omega
    obtain ⟨Y, hY⟩ := Go.Deep.choose_lt (α := List Sc) (n := len) (p := fun i ys => fitsL ks ys ∧ w.cells? base (a.add (i * P.cellsOf e)) (P.cellsOf e) = some (List.zipWith CK.val ks ys)) (fun i hi => by
      obtain ⟨cs', c1, c2⟩ := hx i (by omega)
      obtain ⟨ys, f1, f2⟩ := flat_trod hk c2
      exact ⟨ys, f1, by rw [c1, f2]⟩)
    refine ⟨_, .l (((List.range len).map Y).map (elSc agg)), rfl, ⟨(List.range len).map Y, fun ys hys => ?_, by simp; omega, rfl⟩, some a, len, cap, rfl, by simp, hl, hm, fun j u hj => ?_⟩
    · obtain ⟨i, hi, rfl⟩ := List.mem_map.1 hys
      exact (hY i (List.mem_range.1 hi)).1
    · obtain ⟨j1, j2⟩ := flat_at hok hpos (l := ((List.range len).map Y).map (elSc agg)) hj
      simp only [List.length_map, List.length_range] at j1
      have hy := hY _ j1
      have he : (((List.range len).map Y).map (elSc agg)).getD (j / ks.length) (.i 0) = elSc agg (Y (j / ks.length)) := by
        simp [List.getD_eq_getElem?_getD, j1]
      rw [he, elCells_zip hok (fitsL_len hy.1)] at j2
      have := (World.cells?_some hy.2).2.2
      have hcell := this (j % ks.length) (by rw [hc]; exact Nat.mod_lt _ hpos)
      obtain ⟨blk, off, spot⟩ := a
      simp only at hspot
      subst hspot
      refine ⟨blk, off, rfl, ?_, trivial⟩
      rw [add_lit, add_lit, hc] at hcell
      have ej : off + j / ks.length * ks.length + j % ks.length = off + j := by rw [Nat.add_assoc, Nat.mul_comm, Nat.div_add_mod]
      rw [ej] at hcell
      rw [hcell]; exact j2
theorem shape_trod : ∀ {d : Nat} {t : TypeId} {ks : List AS} {fuel : Nat} {cs : List Value} {x : DataW H × List MemPlace}, shape P d t = some ks → (∀ v ∈ cs, SpotOk v) → DataW.trod enc P w base spare held fuel t cs = some x → ∃ ys, fitAL ks ys ∧ asRelL w (fun _ => True) ks cs ys
  | 0, _, _, _, _, _, h, _, _ => by simp [shape] at h
  | d + 1, t, ks, fuel, cs, x, h, hsp, hx => by
    simp only [shape] at h
    split at h
    · rename_i k hu
      cases h
      obtain ⟨n, rfl, _, hw⟩ := DataW.trod_int hu hx
      exact ⟨[.i n], ⟨⟨n, rfl, hw⟩, trivial⟩, rfl, trivial⟩
    · rename_i hu
      cases h
      obtain ⟨b, rfl, _⟩ := DataW.trod_bool hu hx
      exact ⟨[.b b], ⟨⟨b, rfl⟩, trivial⟩, rfl, trivial⟩
    · rename_i hu
      cases h
      obtain ⟨s, rfl, _, hs⟩ := DataW.trod_string hu hx
      exact ⟨[.s s], ⟨⟨s, rfl, hs⟩, trivial⟩, rfl, trivial⟩
    · rename_i e hu
      split at h
      · rename_i ks' hks
        split at h
        · rename_i hc
          cases h
          obtain ⟨v, y, rfl, f1, f2⟩ := row_trod (aggB P e) hu hks hc.1 hc.2 hsp hx
          exact ⟨[y], ⟨f1, trivial⟩, f2, trivial⟩
        · cases h
      · cases h
    · rename_i fs hu
      split at h
      · rename_i ks' hks
        split at h
        · rename_i hc
          cases h
          obtain ⟨xs, n, _, _, hl, hlen, hf⟩ := DataW.trod_struct hu hx
          have hfs : ∀ (l : List Field) (m : Nat) (ks : List AS) (i : Nat), shapeFs (shape P d) P.cellsOf l m = some ks → (∀ j f, l[j]? = some f → fs[i + j]? = some f) → ∃ ys, fitAL ks ys ∧ asRelL w (fun _ => True) ks ((cs.drop m).take ks.length) ys ∧ (m + ks.length ≤ cs.length ∨ ks = []) := by
            intro l
            induction l with
            | nil =>
              intro m ks i hk _
              simp only [shapeFs, Option.some.injEq] at hk
              subst hk
              exact ⟨[], trivial, by simp [asRelL], .inr rfl⟩
            | cons f l ih =>
              intro m ks i hk hi
              simp only [shapeFs] at hk
              split at hk
              · rename_i k1 hk1
                split at hk
                · rename_i hoff
                  obtain ⟨k2, hk2, rfl⟩ := Option.map_eq_some_iff.1 hk
                  have hfi := hi 0 f rfl
                  rw [Nat.add_zero] at hfi
                  have hlt : i < fs.size := (Array.getElem?_eq_some_iff.1 hfi).1
                  have := hf i f hfi
                  rw [List.getElem?_eq_getElem (by omega)] at this
                  obtain ⟨y1, f1, e1⟩ := shape_trod hk1 (fun v hv => hsp v (List.mem_of_mem_drop (List.mem_of_mem_take hv))) this
                  obtain ⟨y2, f2, e2, b2⟩ := ih (m + k1.length) k2 (i + 1) hk2 (fun j g hj => by
                    have := hi (j + 1) g (by simpa using hj)
                    rw [show i + 1 + j = i + (j + 1) by omega]; exact this)
                  rw [hoff.1, hoff.2] at e1
                  have l1 : ((cs.drop m).take k1.length).length = k1.length := asRelL_vlen e1
                  have hb : k1.length ≤ (cs.drop m).length := by rw [List.length_take] at l1; omega
                  refine ⟨y1 ++ y2, fitAL_append f1 f2, ?_, ?_⟩
                  · rw [List.length_append, List.take_add, List.drop_drop]
                    exact asRelL_app e1 e2
                  · by_cases h0 : k1 ++ k2 = []
                    · exact .inr h0
                    · left
                      rw [List.length_append]
                      rcases b2 with h | h
                      · omega
                      · subst h
                        simp only [List.append_nil] at h0
                        have : 0 < k1.length := List.length_pos_iff.2 h0
                        rw [List.length_drop] at hb
                        simp; omega
                · cases hk
              · cases hk
          obtain ⟨ys, f1, e1, _⟩ := hfs fs.toList 0 ks 0 hks (fun j f hj => by simpa using hj)
          refine ⟨ys, f1, ?_⟩
          rw [List.drop_zero, List.take_of_length_le (by omega)] at e1
          exact e1
        · cases h
      · cases h
    · cases h
/-- A struct with strings and slices. -/
theorem open_s {r : Reach} {b0 : Nat} {t : TypeId} {v : Value} {d : DataW H} {p : List MemPlace} {ks : List AS} {fs : Array Field} (hu : P.underlying t = some (.struct fs)) (hk : shape P 5 t = some ks) (ok : Value.okWide P w r b0 t v) (h : DataW.Trod enc P w base spare held t v d p) :
    ∃ ys, fitAL ks ys ∧ csRel w (fun _ => True) (.g ks) v ys := by
  simp only [Value.okWide, hu] at ok
  obtain ⟨cs, rfl, _, ts, _, _, hcell⟩ := ok
  obtain ⟨fuel, hf⟩ := h
  have hf : DataW.trod enc P w base spare held fuel t cs.toList = some (d, p) := hf
  obtain ⟨ys, hy, e⟩ := shape_trod hk (fun v hv => by
    obtain ⟨i, hi⟩ := List.mem_iff_getElem?.1 hv
    obtain ⟨u, _, hu⟩ := hcell i v (by simpa using hi)
    exact cell_spot hu) hf
  exact ⟨ys, hy, cs.toList, by simp, e⟩
end
theorem fitAL_nil {ys : List Sc} (h : fitAL [] ys) : ys = [] := by
  cases ys with
  | nil => rfl
  | cons y r => exact h.elim
theorem fitAL_int {k : IntKind} {ks : List AS} {ys : List Sc} (h : fitAL (.ck (.int k) :: ks) ys) : ∃ n r, ys = .i n :: r ∧ (Lit.int k n).wf = true ∧ fitAL ks r := by
  cases ys with
  | nil => exact h.elim
  | cons y r => obtain ⟨⟨n, rfl, hw⟩, hr⟩ := h; exact ⟨n, r, rfl, hw, hr⟩
theorem fitAL_bool {ks : List AS} {ys : List Sc} (h : fitAL (.ck .bool :: ks) ys) : ∃ n r, ys = .b n :: r ∧ fitAL ks r := by
  cases ys with
  | nil => exact h.elim
  | cons y r => obtain ⟨⟨n, rfl⟩, hr⟩ := h; exact ⟨n, r, rfl, hr⟩
theorem fitAL_str {ks : List AS} {ys : List Sc} (h : fitAL (.ck .str :: ks) ys) : ∃ n r, ys = .s n :: r ∧ n.size ≤ maxLen ∧ fitAL ks r := by
  cases ys with
  | nil => exact h.elim
  | cons y r => obtain ⟨⟨n, rfl, hw⟩, hr⟩ := h; exact ⟨n, r, rfl, hw, hr⟩
theorem fitAL_row {e : TypeId} {kk : List CK} {agg : Bool} {ks : List AS} {ys : List Sc} (h : fitAL (.row e kk agg :: ks) ys) : ∃ (y : Sc) (r : List Sc), ys = y :: r ∧ fitAL ks r := by
  cases ys with
  | nil => exact h.elim
  | cons y r => exact ⟨y, r, rfl, h.2⟩
theorem fitAL_ints {e : TypeId} {k : IntKind} {ks : List AS} {ys : List Sc} (h : fitAL (.row e [.int k] false :: ks) ys) : ∃ (xs : List Int) (r : List Sc), ys = .l (xs.map .i) :: r ∧ (∀ x ∈ xs, (Lit.int k x).wf = true) ∧ xs.length ≤ maxLen ∧ fitAL ks r := by
  cases ys with
  | nil => exact h.elim
  | cons y r =>
    obtain ⟨⟨yss, h1, h2, rfl⟩, hr⟩ := h
    have key : ∀ yss : List (List Sc), (∀ ys ∈ yss, fitsL [.int k] ys) → ∃ xs : List Int, (∀ x ∈ xs, (Lit.int k x).wf = true) ∧ xs.length = yss.length ∧ yss.map (elSc false) = xs.map .i := by
      intro yss
      induction yss with
      | nil => intro _; exact ⟨[], fun _ h => (by cases h), rfl, rfl⟩
      | cons ys l ih =>
        intro hall
        obtain ⟨xs, i1, i2, i3⟩ := ih (fun ys hy => hall ys (List.mem_cons_of_mem _ hy))
        obtain ⟨n, r, rfl, hw, hr⟩ := fitsL_int (hall ys (List.mem_cons_self ..))
        refine ⟨n :: xs, fun x hx => ?_, by simp [i2], by simp [i3, elSc]⟩
        rcases List.mem_cons.1 hx with rfl | hx
        · exact hw
        · exact i1 x hx
    obtain ⟨xs, i1, i2, i3⟩ := key yss h1
    exact ⟨xs, r, by rw [i3], i1, by omega, hr⟩
end Go.Proofs.YtmaocifplceopaaDoor
