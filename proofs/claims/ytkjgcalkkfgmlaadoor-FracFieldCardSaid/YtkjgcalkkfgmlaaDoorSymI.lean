/-
  What an operation does: rows that grow.
  What an operation does: all of them, but calls.
  What an operation does: each of them, but calls of functions.
  What an operation does: composite values.
  What an operation does: all of them, but calls of functions.
-/
import Derived.Test.YtkjgcalkkfgmlaaDoorSymD
import Derived.Laws.Slices
import Derived.Great.BuildSlice
import Derived.Laws.Tables
import Derived.Lib.AppendStr
namespace Go.Proofs.YtkjgcalkkfgmlaaDoor
open Go.RowKit

theorem appE_ev (ρ : List Sc) : ∀ (y x : Ex), ((appE x y).ev ρ).list = (x.ev ρ).list ++ (y.ev ρ).list := by
  intro y
  induction y with
  | nil => intro x; simp [appE, Ex.ev]
  | o f p q _ ihq =>
    intro x
    by_cases hf : f = .cons
    · subst hf
      rw [appE, ihq, mk2_ev]
      simp [U2.ev, Ex.ev]
    · have : appE x (.o f p q) = match x with | .nil => .o f p q | x => mk2 .app x (.o f p q) := by
        cases f <;> first | rfl | exact absurd rfl hf
      rw [this]
      cases x <;> simp only [] <;> (try rw [mk2_ev]) <;> simp [U2.ev, Ex.ev]
  | _ => intro x; unfold appE; cases x <;> simp only [] <;> (try rw [mk2_ev]) <;> simp [U2.ev, Ex.ev]

section
variable {P : Program} {B : Nat} {w0 : World} {σ : St} {c : Ct} {a : Act} {w : World} {o : Oper} {rd : Rd}

theorem run_append_none (t ty e : TypeId) (i : TypeInfo) (ht : P.underlying t = some (.slice e)) (hi : P.info? e = some i) (ad : Option Addr) (n cap cc : Nat) (h : n ≤ cap) (w : World) :
    (Builtin.append_ #[t, t] ty #[.slice ad n cap, .slice none 0 cc]).run P w = .ok (.slice ad n cap) w := by
  cases ad <;> simp [Builtin.append_, run_underlying ht, sizeOf, typeInfo, hi, Builtin.lenOf, Builtin.firstCells, h, storeCells]

/-- An append, with the block in which the new row lies. -/
theorem run_append_blk (w : World) (base : Nat) (t ty e : TypeId) (i : TypeInfo) (z : Value) (size bytes : Nat) (ht : P.underlying t = some (.slice e)) (hi : P.info? e = some i) (hz : i.zero = some z)
    (hsize : i.size = size) (hby : i.bytes = bytes) (hzs : z.cells.size = size) (hsz : 0 < size)
    (v : Value) (n : Nat) (xs : List Value) (hown : w.ownsRow base e size v n xs)
    (ad : Addr) (m cc : Nat) (news : List Value) (hl : news.length = m * size) (hnews : ∀ j u, news[j]? = some u → w.cell? (ad.add j) = some u) (h1 : ∀ u ∈ news, u.oneCell' = true)
    (h63 : n + m ≤ maxLen) (hbytes : (n + m) * bytes ≤ 140737488355328) (hbase : base ≤ w.heap.size) :
    ∃ v' w', (Builtin.append_ #[t, t] ty #[v, .slice (some ad) m cc]).run P w = .ok v' w' ∧ w'.ownsRow base e size v' (n + m) (xs ++ news) ∧ w.grownBy w' v.ownBlock ∧
      (v'.ownBlock = v.ownBlock ∨ ∀ p, v'.ownBlock = some p → w.heap.size ≤ p) := by
  obtain ⟨v', w', hr, q1, q2, q3⟩ := run_append_own (P := P) w base t ty e i z size bytes ht hi hz hsize hby hzs hsz v n xs hown ad m cc news hl hnews h1 h63 hbytes hbase
  refine ⟨v', w', hr, q1, q2, ?_⟩
  subst hsize hby
  rcases hown.2 with ⟨rfl, rfl⟩ | ⟨p, cap, cur, rfl, hbg, hg, hnc, hcm, hcs, htake⟩
  · by_cases hm : m = 0
    · rw [q3.2 ⟨rfl, hm⟩]; exact .inl rfl
    · have h := run_append_nil (P := P) w t ty e i z ht hi hz ad m cc news hl hnews (by omega) (by simp only [maxLen] at h63; omega) (by have hb := hbytes; simp only [Nat.zero_add] at hb; omega)
      rw [h] at hr
      cases hr
      exact .inr fun q hq => by simp [Value.ownBlock] at hq; omega
  · by_cases hroom : n + m ≤ cap
    · have hfit : n * i.size + news.length ≤ cur.size := by rw [hl, hcs, ← Nat.add_mul]; exact Nat.mul_le_mul_right _ hroom
      have h := run_append_room (P := P) w t ty e i ht hi p n cap cur hg ad m cc news hl hnews h1 hroom hfit
      rw [h] at hr
      cases hr
      exact .inl rfl
    · have holds : ∀ j u, xs[j]? = some u → w.cell? ((⟨p, 0, none⟩ : Addr).add j) = some u := hown.cells (g := p) rfl
      have h := run_append_grow (P := P) w t ty e i z ht hi hz ⟨p, 0, none⟩ n cap xs hown.1 holds ad m cc news hl hnews (by omega) (by simp only [maxLen] at h63; omega) (growslice_fits (by omega) hbytes)
      rw [h] at hr
      cases hr
      exact .inr fun q hq => by simp [Value.ownBlock] at hq; omega
end
end Go.Proofs.YtkjgcalkkfgmlaaDoor
namespace Go.Proofs.YtkjgcalkkfgmlaaDoor
open Go.RowKit

section
variable {P : Program} {B : Nat} {w0 : World} {σ : St} {c : Ct} {a : Act} {w : World} {o : Oper} {rd : Rd}

theorem fieldB_spec {ty : TypeId} {f : Nat} {fd : Field} (h : fieldB P ty f = some fd) : ∃ fs, P.underlying ty = some (.struct fs) ∧ fs[f]? = some fd := by
  unfold fieldB at h
  split at h
  · rename_i fs hu; exact ⟨fs, hu, h⟩
  · cases h

theorem cksOf_len : ∀ {vs : List Value} {ks : List CK}, cksOf vs = some ks → vs.length = ks.length
  | [], ks, h => by simp [cksOf] at h; subst h; rfl
  | v :: vs, ks, h => by
    unfold cksOf at h
    split at h
    · rename_i x xs h1 h2; cases h; simp [cksOf_len h2]
    · cases h
theorem ckOf_cells {v : Value} {k : CK} (h : ckOf v = some k) : v.cells.size = 1 := by unfold ckOf at h; split at h <;> first | rfl | cases h
theorem rowTy_zero {el : TypeId} {agg : Bool} {ks : List CK} (h : rowTy P el = some (agg, ks)) {i : TypeInfo} (hi : P.info? el = some i) : ∃ z, i.zero = some z ∧ z.cells.size = ks.length := by
  unfold rowTy zeroOf at h
  simp only [hi, Option.bind_some] at h
  split at h
  · rename_i cs hz
    simp only [Option.map_eq_some_iff, Prod.mk.injEq] at h
    obtain ⟨x, h1, h2, rfl⟩ := h
    exact ⟨_, hz, by simpa [Value.cells] using cksOf_len h1⟩
  · rename_i v _ hz
    simp only [Option.map_eq_some_iff, Prod.mk.injEq] at h
    obtain ⟨x, h1, h2, rfl⟩ := h
    exact ⟨v, hz, ckOf_cells h1⟩
  · cases h

theorem room_spec {e : Ex} {bytes : Nat} (h : ((room e bytes).ev c.ρ).bool = true) (hb : 0 < bytes) : (e.ev c.ρ).list.length * bytes ≤ 140737488355328 ∧ (e.ev c.ρ).list.length ≤ maxLen := by
  unfold room at h
  rw [mk2_ev, mk1_ev] at h
  have h : ((e.ev c.ρ).list.length : Int) ≤ ((140737488355328 / bytes : Nat) : Int) := of_decide_eq_true h
  have h : (e.ev c.ρ).list.length ≤ 140737488355328 / bytes := by exact_mod_cast h
  have h2 : (e.ev c.ρ).list.length * bytes ≤ 140737488355328 := Nat.le_trans (Nat.mul_le_mul_right _ h) (Nat.div_mul_le_self _ _)
  refine ⟨h2, ?_⟩
  have : (e.ev c.ρ).list.length * 1 ≤ (e.ev c.ρ).list.length * bytes := Nat.mul_le_mul_left _ hb
  simp only [maxLen]; omega

/-- A string's bytes behind a row, with the block in which the new row lies. -/
theorem run_append_str (w : World) (base : Nat) (t u ty e : TypeId) (i : TypeInfo) (ht : P.underlying t = some (.slice e)) (hu : P.underlying u = some .string) (hi : P.info? e = some i) (hz : i.zero = some (.int .u8 0))
    (hsize : i.size = 1) (hby : i.bytes = 1) (v : Value) (n : Nat) (xs : List Value) (hown : w.ownsRow base e 1 v n xs) (s : ByteArray)
    (h63 : n + s.size ≤ maxLen) (hbytes : n + s.size ≤ 140737488355328) (hbase : base ≤ w.heap.size) :
    ∃ v' w', (Builtin.append_ #[t, u] ty #[v, .string s]).run P w = .ok v' w' ∧ w'.ownsRow base e 1 v' (n + s.size) (xs ++ Lib.strCells s) ∧ w.grownBy w' v.ownBlock ∧
      (v'.ownBlock = v.ownBlock ∨ ∀ p, v'.ownBlock = some p → w.heap.size ≤ p) := by
  obtain ⟨v', w', hr, q1, q2, q3⟩ := Lib.run_append_own_string (P := P) w base t u ty e i ht hu hi hz hsize hby v n xs hown s h63 hbytes hbase
  refine ⟨v', w', hr, q1, q2, ?_⟩
  rcases hown.2 with ⟨rfl, rfl⟩ | ⟨p, cap, cur, rfl, hbg, hg, hnc, hcm, hcs, htake⟩
  · by_cases hm : s.size = 0
    · rw [q3.2 ⟨rfl, hm⟩]; exact .inl rfl
    · have h := run_append_nil_string (P := P) w t u ty e i (.int .u8 0) ht hu hi hz s (by omega) (by unfold maxLen at h63; omega) (by rw [hby]; omega)
      rw [h] at hr
      cases hr
      exact .inr fun q hq => by simp [Value.ownBlock] at hq; omega
  · by_cases hroom : n + s.size ≤ cap
    · have h := Lib.run_append_room_string (P := P) w t u ty e i ht hu hi hsize p n cap cur hg s hroom (by simp at hcs; omega)
      rw [h] at hr
      cases hr
      exact .inl rfl
    · have holds : ∀ j u, xs[j]? = some u → w.cell? ((⟨p, 0, none⟩ : Addr).add j) = some u := hown.cells (g := p) rfl
      have h := Lib.run_append_grow_string (P := P) w t u ty e i (.int .u8 0) ht hu hi hz ⟨p, 0, none⟩ n cap xs (by rw [hsize]; exact hown.1) holds s (by omega) (by unfold maxLen at h63; omega) (by rw [hby]; exact growslice_fits (by omega) (by omega))
      rw [h] at hr
      cases hr
      exact .inr fun q hq => by simp [Value.ownBlock] at hq; omega
theorem flat_bytes (s : ByteArray) : rowFlat false [.int .u8] (bytesL s) = Lib.strCells s := by
  unfold bytesL Lib.strCells rowFlat
  generalize s.data.toList = l
  induction l with
  | nil => rfl
  | cons x r ih => simp only [List.map_cons, List.flatMap_cons, ih]; rfl
theorem bytesL_length (s : ByteArray) : (bytesL s).length = s.size := by
  unfold bytesL; rw [List.length_map, Array.length_toList]; rfl
theorem appStr_ok (g : Good B w0 σ c a w) (hrd : RdOk σ c a rd) {cl : Call} (hc : cl.callee = .builtin .append) (ho : o.op = .call cl) {s x : Operand} {t t' : TypeId} (hargs : cl.args = #[s, x]) (htys : cl.argTypes = #[t, t']) {r : OpR} (hfr : ∀ i ∈ r.nr, c.R i = none) (h : appStr P rd s x t t' = some r)
    (hn : ∀ e ∈ r.needs, (e.ev c.ρ).bool = true) : Does P B w0 σ c a w o r := by
  unfold appStr at h
  split at h
  rotate_left
  · cases h
  rename_i el hu hus
  split at h
  rotate_left
  · cases h
  rename_i i e hi hev
  split at h
  rotate_left
  · cases h
  rename_i hcond
  simp only [Bool.and_eq_true] at hcond
  obtain ⟨⟨hby, hsz⟩, hz⟩ := hcond
  have hz : i.zero = some (.int .u8 0) := by
    unfold zero8 at hz
    split at hz
    · rename_i e
      simp only [Bool.and_eq_true, decide_eq_true_eq] at hz
      rw [e, hz.1, hz.2]
    · cases hz
  have hby : i.bytes = 1 := Nat.eq_of_beq_eq_true hby
  have hsz : i.size = 1 := Nat.eq_of_beq_eq_true hsz
  have hx := hrd.ev x
  rw [hev] at hx
  have hx : a.eval x = .string (e.ev c.ρ).str := hx
  have hexec : ∀ v' w', (Builtin.append_ #[t, t'] o.type #[a.eval s, .string (e.ev c.ρ).str]).run P w = .ok v' w' → (execOp a.eval o).run P w = .ok (.value v') w' := fun v' w' he => by
    simp [execOp, ho, resolve, hc, hargs, htys, invoke, builtin, hx, he]
  have hyl : ((mk1 .bytes e).ev c.ρ).list = bytesL (e.ev c.ρ).str := by rw [mk1_ev]; rfl
  generalize (e.ev c.ρ).str = str at *
  split at h
  · rename_i r' hs
    split at h
    rotate_left
    · cases h
    rename_i k hk
    split at h
    rotate_left
    · cases h
    rename_i hcond
    simp only [Bool.and_eq_true, srcFits, beq_iff_eq, decide_eq_true_eq] at hcond
    obtain ⟨hown, ⟨hel, hks⟩, hag⟩ := hcond
    cases h
    have hfr := hfr rd.nr (by simp)
    have hsv := hrd.ev s
    rw [hs] at hsv
    obtain ⟨hR, ad0, n0, cap0, hv0⟩ := hsv
    have hk' := hrd.row _ _ hk
    obtain ⟨v0, e', ad1, n1, cap1, hv1, q1, q2, q3, q4, q5⟩ := g.rows _ _ hk'
    rw [hR] at e'
    cases e'
    rw [hv0] at hv1; cases hv1
    have hroom := room_spec (hn _ (List.mem_singleton.2 rfl)) (Nat.le_refl 1)
    rw [appE_ev, hyl, List.length_append, q1, bytesL_length] at hroom
    have q4 := q4 hown
    rw [hks, hag, hel] at q4
    rw [hv0] at hexec hR q4
    obtain ⟨v', w', hr, r1, r2, r3⟩ := run_append_str (P := P) w B t t' o.type el i hu hus hi hz hsz hby _ n0 _ q4 str hroom.2 (by omega) g.hB
    have hv' : ∃ ad2 cap2, v' = .slice ad2 (n0 + str.size) cap2 ∧ n0 + str.size ≤ cap2 ∧ cap2 ≤ maxLen := by
      rcases r1.2 with ⟨rfl, hz⟩ | ⟨p, cap2, cur, rfl, _, _, f1, f2, _⟩
      · exact ⟨none, 0, by rw [hz], by omega, by simp [maxLen]⟩
      · exact ⟨_, cap2, rfl, f1, f2⟩
    obtain ⟨ad2, cap2, rfl, f1, f2⟩ := hv'
    have hfl : rowFlat k.agg k.ks (k.cont.ev c.ρ).list ++ Lib.strCells str = rowFlat k.agg k.ks ((appE k.cont (mk1 .bytes e)).ev c.ρ).list := by
      rw [appE_ev, hyl, flat_append, hks, hag, flat_bytes]
    have r1' : w'.ownsRow B k.el k.ks.length (.slice ad2 (n0 + str.size) cap2) (n0 + str.size) (rowFlat k.agg k.ks ((appE k.cont (mk1 .bytes e)).ev c.ρ).list) := by
      rw [← hfl, hks, hag, hel]; exact r1
    have gg := g.turnRow hk' hown hR (w' := w') r2 (r' := rd.nr) (k' := { k with cont := appE k.cont (mk1 .bytes e) }) hown (ad := ad2) (n := n0 + str.size) (cap := cap2) (by rw [appE_ev, hyl, List.length_append, q1, bytesL_length]) f1 f2 r1' r3 (.inl hfr)
    refine ⟨_, w', _, { c with R := fun i => if i = rd.nr then some (.slice ad2 (n0 + str.size) cap2) else c.R i }, hexec _ _ hr, .inl rfl, ?_, fun _ _ => rfl, fun i hi => by simp at hi; simp [hi], ⟨by simp, ad2, n0 + str.size, cap2, rfl⟩, gg⟩
    exact ⟨rfl, rfl, fun _ _ e => e, fun i u e => by
      by_cases h : i = rd.nr
      · subst h; rw [hfr] at e; cases e
      · simp [h, e]⟩
  · rename_i hs
    cases h
    have hfr := hfr rd.nr (by simp)
    have hsv := hrd.ev s
    rw [hs] at hsv
    have hsv : a.eval s = .slice none 0 0 := hsv
    have hroom := room_spec (hn _ (List.mem_singleton.2 rfl)) (Nat.le_refl 1)
    rw [appE_ev, hyl, List.length_append, bytesL_length] at hroom
    simp only [Ex.ev, Sc.list_l, List.length_nil, Nat.zero_add] at hroom
    rw [hsv] at hexec
    obtain ⟨v', w', hr, r1, r2, r3⟩ := run_append_str (P := P) w B t t' o.type el i hu hus hi hz hsz hby (.slice none 0 0) 0 [] (World.ownsRow_nil w B el 1) str (by omega) (by omega) g.hB
    simp only [Nat.zero_add, List.nil_append] at r1
    have hv' : ∃ ad2 cap2, v' = .slice ad2 str.size cap2 ∧ str.size ≤ cap2 ∧ cap2 ≤ maxLen := by
      rcases r1.2 with ⟨rfl, hz⟩ | ⟨p, cap2, cur, rfl, _, _, f1, f2, _⟩
      · exact ⟨none, 0, by rw [hz], by omega, by simp [maxLen]⟩
      · exact ⟨_, cap2, rfl, f1, f2⟩
    obtain ⟨ad2, cap2, rfl, f1, f2⟩ := hv'
    have hfl : Lib.strCells str = rowFlat false [.int .u8] ((appE .nil (mk1 .bytes e)).ev c.ρ).list := by
      rw [appE_ev, hyl, ← flat_bytes]; rfl
    have hcont : ((appE .nil (mk1 .bytes e)).ev c.ρ).list = bytesL str := by rw [appE_ev, hyl]; simp [Ex.ev]
    have gg := g.newRow (w' := w') (g.below.grown r2 g.hB (fun k hk => by cases hk)) r2.size (fun n hn => r2.block n hn (by simp [Value.ownBlock])) hfr
      (k := ⟨el, [.int .u8], false, appE .nil (mk1 .bytes e), true⟩) (ad := ad2) (n := str.size) (cap := cap2) (by simp only; rw [hcont, bytesL_length]) f1 f2
      (fun _ => ⟨by simp only; rw [← hfl]; exact r1, fun p hp => by
        rcases r3 with h | h
        · rw [hp] at h; cases h
        · exact h p hp⟩) (fun h => by cases h)
    refine ⟨_, w', _, { c with R := fun i => if i = rd.nr then some (.slice ad2 str.size cap2) else c.R i }, hexec _ _ hr, .inl rfl, ?_, fun _ _ => rfl, fun i hi => by simp at hi; simp [hi], ⟨by simp, ad2, str.size, cap2, rfl⟩, gg⟩
    exact ⟨rfl, rfl, fun _ _ e => e, fun i u e => by
      by_cases h : i = rd.nr
      · subst h; rw [hfr] at e; cases e
      · simp [h, e]⟩
  · cases h
/-- What is appended, as it lies in the world. -/
theorem append_ok (g : Good B w0 σ c a w) (hrd : RdOk σ c a rd) {cons : List Con} {cl : Call} (hc : cl.callee = .builtin .append) (ho : o.op = .call cl) {r : OpR} (hfr : ∀ i ∈ r.nr, c.R i = none) (h : symCall P cons rd cl = some r)
    (hn : ∀ e ∈ r.needs, (e.ev c.ρ).bool = true) : Does P B w0 σ c a w o r := by
  unfold symCall at h
  rw [hc] at h
  simp only at h
  split at h
  rotate_left
  · cases h
  rename_i s x t t' h1 h2
  split at h
  rotate_left
  · exact appStr_ok g hrd hc ho (by rw [← h1]) (by rw [← h2]) hfr h hn
  rename_i ht
  subst ht
  split at h
  rotate_left
  · cases h
  rename_i el hu
  split at h
  rotate_left
  · cases h
  rename_i agg ks i src lo len hrt hi hsl
  split at h
  rotate_left
  · cases h
  rename_i hcond
  simp only [Bool.and_eq_true] at hcond
  obtain ⟨⟨⟨hsrc, hokb⟩, hbytes⟩, hsz⟩ := hcond
  have hsz : i.size = ks.length := Nat.eq_of_beq_eq_true hsz
  have hbytes : 0 < i.bytes := Nat.le_of_ble_eq_true (by simpa [Nat.blt] using hbytes)
  obtain ⟨hok, hpos⟩ := okForm_of hokb
  obtain ⟨z, hz, hzs⟩ := rowTy_zero hrt hi
  obtain ⟨ad, m, cc, hv, hlen, hlo, hmc, hcm, hcl, hmat⟩ := sliceOf_spec g hrd.row hsl (hrd.ev x)
  have hargs : cl.args = #[s, x] := by rw [← h1]
  have htys : cl.argTypes = #[t, t] := by rw [← h2]
  have hexec : ∀ v' w', (Builtin.append_ #[t, t] o.type #[a.eval s, a.eval x]).run P w = .ok v' w' → (execOp a.eval o).run P w = .ok (.value v') w' := fun v' w' he => by
    simp [execOp, ho, resolve, hc, hargs, htys, invoke, builtin, he]
  -- the source's cells
  generalize hy : contOf (rd.ev x) src lo len = y at h hcl hmat
  have hnews : (ad = none ∧ m = 0) ∨ ∃ ad', ad = some ad' ∧ ∀ j u, (rowFlat agg ks (y.ev c.ρ).list)[j]? = some u → w.cell? (ad'.add j) = some u := by
    by_cases hm : m = 0
    · cases ad with
      | none => exact .inl ⟨rfl, hm⟩
      | some ad' =>
        refine .inr ⟨ad', rfl, fun j u hj => ?_⟩
        rw [hm] at hcl
        rw [List.eq_nil_of_length_eq_zero hcl] at hj
        simp [rowFlat] at hj
    · cases src with
      | none => simp only at hmat; exact absurd hmat.2.1 hm
      | some rk =>
        obtain ⟨q, k⟩ := rk
        simp only at hmat
        obtain ⟨_, hk, _, hpk, _, _, _, _, hpl, hcell⟩ := hmat
        simp only [srcFits, Bool.and_eq_true, beq_iff_eq, decide_eq_true_eq] at hsrc
        obtain ⟨⟨_, hks⟩, hag⟩ := hsrc
        subst hks hag
        obtain ⟨p, q', m', cap', e1, e2, e3⟩ := hpl (by omega)
        refine .inr ⟨_, e3, fun j u hj => ?_⟩
        obtain ⟨p', o', f1, f2, _⟩ := hcell j u hj
        rw [e3] at f1; cases f1
        have h0 : (⟨p, q' + (lo.ev c.ρ).int.toNat * k.ks.length, none⟩ : Addr).add j = ⟨p, q' + (lo.ev c.ρ).int.toNat * k.ks.length + j, none⟩ := by unfold Addr.add; split <;> simp_all
        rw [h0]; exact f2
  -- the append
  have happ : ∀ (v0 : Value) (n0 : Nat) (l0 : List Sc) (ad0 : Option Addr) (cap0 : Nat), v0 = .slice ad0 n0 cap0 → n0 ≤ cap0 → w.ownsRow B el ks.length v0 n0 (rowFlat agg ks l0) →
      (n0 + m) * i.bytes ≤ 140737488355328 → n0 + m ≤ maxLen →
      ∃ v' w', (Builtin.append_ #[t, t] o.type #[v0, a.eval x]).run P w = .ok v' w' ∧ w'.ownsRow B el ks.length v' (n0 + m) (rowFlat agg ks (l0 ++ (y.ev c.ρ).list)) ∧ w.grownBy w' v0.ownBlock ∧
        (v'.ownBlock = v0.ownBlock ∨ ∀ p, v'.ownBlock = some p → w.heap.size ≤ p) := by
    intro v0 n0 l0 ad0 cap0 hv0 hle0 hown hb1 hb2
    rw [hv]
    rcases hnews with ⟨rfl, rfl⟩ | ⟨ad', rfl, hcell⟩
    · refine ⟨v0, w, ?_, ?_, ⟨rfl, rfl, rfl, Nat.le_refl _, fun _ _ _ => rfl⟩, .inl rfl⟩
      · rw [hv0]; exact run_append_none t o.type el i hu hi ad0 n0 cap0 cc hle0 w
      · rw [List.eq_nil_of_length_eq_zero hcl, List.append_nil]; exact hown
    · have := run_append_blk (P := P) w B t o.type el i z ks.length i.bytes hu hi hz hsz rfl hzs hpos v0 n0 _ hown ad' m cc (rowFlat agg ks (y.ev c.ρ).list) (by rw [flat_length hok, hcl]) hcell (flat_one agg ks _) hb2 hb1 g.hB
      rw [← flat_append] at this
      exact this
  split at h
  · -- a row of the call's own
    rename_i r' hs
    split at h
    rotate_left
    · cases h
    rename_i k hk
    split at h
    rotate_left
    · cases h
    rename_i hcond
    simp only [Bool.and_eq_true, srcFits, beq_iff_eq, decide_eq_true_eq] at hcond
    obtain ⟨⟨hown, ⟨hel, hks⟩, hag⟩, hnr⟩ := hcond
    cases h
    have hfr := hfr rd.nr (by simp)
    subst hel hks hag
    have hsv := hrd.ev s
    rw [hs] at hsv
    obtain ⟨hR, ad0, n0, cap0, hv0⟩ := hsv
    have hk' := hrd.row _ _ hk
    obtain ⟨v0, e, ad1, n1, cap1, hv1, q1, q2, q3, q4, q5⟩ := g.rows _ _ hk'
    rw [hR] at e
    cases e
    rw [hv0] at hv1; cases hv1
    have hroom := room_spec (hn _ (List.mem_singleton.2 rfl)) hbytes
    rw [appE_ev, List.length_append, q1, hcl] at hroom
    obtain ⟨v', w', hr, r1, r2, r3⟩ := happ _ n0 _ ad0 cap0 hv0 q2 (q4 hown) hroom.1 hroom.2
    have hv' : ∃ ad2 cap2, v' = .slice ad2 (n0 + m) cap2 ∧ n0 + m ≤ cap2 ∧ cap2 ≤ maxLen := by
      rcases r1.2 with ⟨rfl, hz⟩ | ⟨p, cap2, cur, rfl, _, _, f1, f2, _⟩
      · exact ⟨none, 0, by rw [hz], by omega, by simp [maxLen]⟩
      · exact ⟨_, cap2, rfl, f1, f2⟩
    obtain ⟨ad2, cap2, rfl, f1, f2⟩ := hv'
    have gg := g.turnRow hk' hown hR (w' := w') r2 (r' := rd.nr) (k' := { k with cont := appE k.cont y }) hown (ad := ad2) (n := n0 + m) (cap := cap2) (by rw [appE_ev, List.length_append, q1, hcl]) f1 f2 (by rw [appE_ev]; exact r1) r3 (.inl hfr)
    refine ⟨_, w', _, { c with R := fun i => if i = rd.nr then some (.slice ad2 (n0 + m) cap2) else c.R i }, hexec _ _ hr, .inl rfl, ?_, fun _ _ => rfl, fun i hi => by simp at hi; simp [hi], ⟨by simp, ad2, n0 + m, cap2, rfl⟩, gg⟩
    exact ⟨rfl, rfl, fun _ _ e => e, fun i u e => by
      by_cases h : i = rd.nr
      · subst h; rw [hfr] at e; cases e
      · simp [h, e]⟩
  · -- a nil row
    rename_i hs
    cases h
    have hfr := hfr rd.nr (by simp)
    have hsv := hrd.ev s
    rw [hs] at hsv
    have hsv : a.eval s = .slice none 0 0 := hsv
    have hroom := room_spec (hn _ (List.mem_singleton.2 rfl)) hbytes
    rw [appE_ev, List.length_append, hcl] at hroom
    simp only [Ex.ev, Sc.list_l, List.length_nil, Nat.zero_add] at hroom
    obtain ⟨v', w', hr, r1, r2, r3⟩ := happ _ 0 [] none 0 rfl (Nat.le_refl _) (World.ownsRow_nil w B el ks.length) (by simpa using hroom.1) (by simpa using hroom.2)
    rw [hsv] at hexec
    simp only [Nat.zero_add, List.nil_append] at r1
    have hv' : ∃ ad2 cap2, v' = .slice ad2 m cap2 ∧ m ≤ cap2 ∧ cap2 ≤ maxLen := by
      rcases r1.2 with ⟨rfl, hz⟩ | ⟨p, cap2, cur, rfl, _, _, f1, f2, _⟩
      · exact ⟨none, 0, by rw [hz], by omega, by simp [maxLen]⟩
      · exact ⟨_, cap2, rfl, f1, f2⟩
    obtain ⟨ad2, cap2, rfl, f1, f2⟩ := hv'
    have hcont : ((appE .nil y).ev c.ρ).list = (y.ev c.ρ).list := by rw [appE_ev]; simp [Ex.ev]
    have gg := g.newRow (w' := w') (g.below.grown r2 g.hB (fun k hk => by cases hk)) r2.size (fun n hn => r2.block n hn (by simp [Value.ownBlock])) hfr
      (k := ⟨el, ks, agg, appE .nil y, true⟩) (ad := ad2) (n := m) (cap := cap2) (by simp only; rw [hcont, hcl]) f1 f2
      (fun _ => ⟨by simp only; rw [hcont]; exact r1, fun p hp => by
        rcases r3 with h | h
        · rw [hp] at h; cases h
        · exact h p hp⟩) (fun h => by cases h)
    refine ⟨_, w', _, { c with R := fun i => if i = rd.nr then some (.slice ad2 m cap2) else c.R i }, hexec _ _ hr, .inl rfl, ?_, fun _ _ => rfl, fun i hi => by simp at hi; simp [hi], ⟨by simp, ad2, m, cap2, rfl⟩, gg⟩
    exact ⟨rfl, rfl, fun _ _ e => e, fun i u e => by
      by_cases h : i = rd.nr
      · subst h; rw [hfr] at e; cases e
      · simp [h, e]⟩
  · cases h
end
end Go.Proofs.YtkjgcalkkfgmlaaDoor
namespace Go.Proofs.YtkjgcalkkfgmlaaDoor
open Go.RowKit

section
variable {P : Program} {B : Nat} {w0 : World} {σ : St} {c : Ct} {a : Act} {w : World} {o : Oper} {rd : Rd}

theorem mm_max : ∀ (l : List Operand) (k : IntKind) (e e' : Ex), mmL .max e (l.map rd.ev) = some e' → (∀ x, (rd.ev x).rel c (a.eval x)) →
    ((l.map a.eval).foldlM Builtin.max2 (.int k (e.ev c.ρ).int)).run P w = .ok (.int k (e'.ev c.ρ).int) w
  | [], k, e, e', h, _ => by simp [mmL] at h; subst h; rfl
  | x :: l, k, e, e', h, hr => by
    have hx := hr x
    simp only [List.map_cons] at h
    unfold mmL at h
    split at h
    · rename_i h1; cases h1
    · rename_i k' q r h2
      simp only [List.cons.injEq] at h2
      obtain ⟨h2, rfl⟩ := h2
      rw [h2] at hx
      have hx : a.eval x = .int k' (q.ev c.ρ).int := hx
      have ih := mm_max l k _ e' h hr
      rw [mk2_ev] at ih
      simp only [List.map_cons, List.foldlM_cons, hx, Builtin.max2, Sem.run_bind, Sem.run_pure, Result.andThen_ok]
      exact ih
    · cases h
theorem mm_min : ∀ (l : List Operand) (k : IntKind) (e e' : Ex), mmL .min e (l.map rd.ev) = some e' → (∀ x, (rd.ev x).rel c (a.eval x)) →
    ((l.map a.eval).foldlM Builtin.min2 (.int k (e.ev c.ρ).int)).run P w = .ok (.int k (e'.ev c.ρ).int) w
  | [], k, e, e', h, _ => by simp [mmL] at h; subst h; rfl
  | x :: l, k, e, e', h, hr => by
    have hx := hr x
    simp only [List.map_cons] at h
    unfold mmL at h
    split at h
    · rename_i h1; cases h1
    · rename_i k' q r h2
      simp only [List.cons.injEq] at h2
      obtain ⟨h2, rfl⟩ := h2
      rw [h2] at hx
      have hx : a.eval x = .int k' (q.ev c.ρ).int := hx
      have ih := mm_min l k _ e' h hr
      rw [mk2_ev] at ih
      simp only [List.map_cons, List.foldlM_cons, hx, Builtin.min2, Sem.run_bind, Sem.run_pure, Result.andThen_ok]
      exact ih
    · cases h

theorem builtin_ok (g : Good B w0 σ c a w) (hrd : RdOk σ c a rd) {cons : List Con} {cl : Call} (ho : o.op = .call cl) {r : OpR} (hfr : ∀ i ∈ r.nr, c.R i = none) (h : symCall P cons rd cl = some r) (hcall : r.call = none)
    (hn : ∀ e ∈ r.needs, (e.ev c.ρ).bool = true) : Does P B w0 σ c a w o r := by
  have h' := h
  unfold symCall at h
  split at h
  · -- len
    rename_i hc
    split at h
    · rename_i x t ts h1 h2
      have hargs : cl.args = #[x] := by rw [← h1]
      have ht : cl.argTypes[0]? = some t := by rw [← Array.getElem?_toList, h2]; rfl
      have hx := hrd.ev x
      have hexec : ∀ v', (Builtin.len_ cl.argTypes o.type #[a.eval x]).run P w = .ok v' w → (execOp a.eval o).run P w = .ok (.value v') w := fun v' he => by
        simp [execOp, ho, resolve, hc, hargs, invoke, builtin, he]
      split at h
      · rename_i e hu hev
        cases h
        rw [hev] at hx
        have hx : a.eval x = .string (e.ev c.ρ).str := hx
        exact Does.quiet g (hexec _ (by simp [Builtin.len_, ht, run_underlying hu, hx]; rfl)) (by show _ = _; rw [mk1_ev]; rfl)
      · rename_i el y hu
        simp only [Option.map_eq_some_iff] at h
        obtain ⟨⟨src, lo, len⟩, hs, rfl⟩ := h
        obtain ⟨ad, n, cap, hv, hl, _⟩ := sliceOf_spec g hrd.row hs hx
        exact Does.quiet g (hexec (.int .i64 n) (by simp [Builtin.len_, ht, run_underlying hu, hv, goInt])) (by show _ = _; rw [hl])
      · rename_i n el hu
        cases h
        exact Does.quiet g (hexec (.int .i64 n) (by
          have : ∀ v : Value, (Builtin.len_ cl.argTypes o.type #[v]).run P w = .ok (.int .i64 n) w := fun v => by cases v <;> simp [Builtin.len_, ht, run_underlying hu, goInt]
          exact this _)) rfl
      · cases h
    · cases h
  · -- max
    rename_i hc
    split at h
    · rename_i x l h1
      have hx := hrd.ev x
      split at h
      · rename_i k e hev
        simp only [Option.map_eq_some_iff] at h
        obtain ⟨e', h2, rfl⟩ := h
        rw [hev] at hx
        have hx : a.eval x = .int k (e.ev c.ρ).int := hx
        have := mm_max (P := P) (w := w) l k e e' h2 hrd.ev
        exact Does.quiet g (v := .int k (e'.ev c.ρ).int) (by simp [execOp, ho, resolve, hc, invoke, builtin, Builtin.max_, h1, hx, this]) rfl
      · cases h
    · cases h
  · -- min
    rename_i hc
    split at h
    · rename_i x l h1
      have hx := hrd.ev x
      split at h
      · rename_i k e hev
        simp only [Option.map_eq_some_iff] at h
        obtain ⟨e', h2, rfl⟩ := h
        rw [hev] at hx
        have hx : a.eval x = .int k (e.ev c.ρ).int := hx
        have := mm_min (P := P) (w := w) l k e e' h2 hrd.ev
        exact Does.quiet g (v := .int k (e'.ev c.ρ).int) (by simp [execOp, ho, resolve, hc, invoke, builtin, Builtin.min_, h1, hx, this]) rfl
      · cases h
    · cases h
  · rename_i hc
    exact append_ok g hrd hc ho hfr h' hn
  · -- a contract: not here
    split at h
    · split at h
      · split at h
        · cases h; cases hcall
        · cases h
      · cases h
    · cases h
  · cases h
end
end Go.Proofs.YtkjgcalkkfgmlaaDoor
namespace Go.Proofs.YtkjgcalkkfgmlaaDoor
open Go.RowKit

theorem setAll (off : Nat) : ∀ (us : List Value) (k : Nat) (vs : List Value), off + k + us.length ≤ vs.length →
    (us.zipIdx k).foldl (fun (cs : Array Value) (x : Value × Nat) => cs.setIfInBounds (off + x.2) x.1) vs.toArray = (vs.take (off + k) ++ us ++ vs.drop (off + k + us.length)).toArray
  | [], k, vs, _ => by simp
  | u :: us, k, vs, h => by
    simp only [List.length_cons] at h
    simp only [List.zipIdx_cons, List.foldl_cons, List.setIfInBounds_toArray]
    rw [setAll off us (k + 1) (vs.set (off + k) u) (by simp; omega)]
    congr 1
    have h1 : (vs.set (off + k) u).take (off + (k + 1)) = vs.take (off + k) ++ [u] := by
      rw [show off + (k + 1) = (off + k) + 1 by omega, List.take_succ_eq_append_getElem (by simp; omega)]
      simp [List.take_set_of_le]
    have h2 : (vs.set (off + k) u).drop (off + (k + 1) + us.length) = vs.drop (off + k + (us.length + 1)) := by
      rw [show off + (k + 1) + us.length = off + k + (us.length + 1) by omega, List.drop_set_of_lt (by omega)]
    rw [h1, h2]
    simp
theorem setAll0 (off : Nat) (us vs : List Value) (h : off + us.length ≤ vs.length) (f : Array Value → Value × Nat → Array Value) (hf : f = fun cs x => cs.setIfInBounds (off + x.2) x.1) :
    us.toArray.zipIdx.foldl f vs.toArray = (vs.take off ++ us ++ vs.drop (off + us.length)).toArray := by
  subst hf
  have := setAll off us 0 vs (by simpa using h)
  rw [← Array.foldl_toList, Array.toList_zipIdx]
  simpa using this

section
variable {P : Program} {B : Nat} {w0 : World} {σ : St} {c : Ct} {a : Act} {w : World} {o : Oper} {rd : Rd}

theorem fillL_run {place : Nat → Option (Nat × Nat)} : ∀ {parts : List (Nat × SV)} {vparts : List (Nat × Value)} {cs cs' : List At} {vs : List Value}, fillL place cs parts = some cs' → relL c cs vs → cs.length = vs.length →
    parts.length = vparts.length → (∀ i (h1 : i < parts.length) (h2 : i < vparts.length), (parts[i]).1 = (vparts[i]).1 ∧ (parts[i]).2.rel c (vparts[i]).2) →
    ∃ vs', Instr.fill place vs.toArray vparts = some vs'.toArray ∧ relL c cs' vs'
  | [], [], cs, cs', vs, h, hr, _, _, _ => by simp [fillL] at h; subst h; exact ⟨vs, rfl, hr⟩
  | [], _ :: _, _, _, _, _, _, _, hl, _ => by simp at hl
  | _ :: _, [], _, _, _, _, _, _, hl, _ => by simp at hl
  | (i, x) :: parts, (i', v) :: vparts, cs, cs', vs, h, hr, hcs, hl, hp => by
    have h0 := hp 0 (by simp) (by simp)
    simp only [List.getElem_cons_zero] at h0
    obtain ⟨rfl, hx⟩ := h0
    unfold fillL at h
    split at h
    · rename_i off size xs h1 h2
      split at h
      · rename_i hlen
        obtain ⟨hlen, hkn⟩ := hlen
        split at h
        · rename_i cs2 h3
          obtain ⟨us, hu, hur⟩ := sv_cells h2 hkn hx
          obtain ⟨h4, h5⟩ := spliceL_rel h3 hr hur
          have hul : us.length = size := by rw [relL_len hur, hlen]
          have h6 := setAll0 off us vs h5 _ rfl
          have := fillL_run (parts := parts) (vparts := vparts) h h4 (by
            have := relL_len h4; exact this.symm) (by simpa using hl) (fun j h1 h2 => by
              have := hp (j + 1) (by simp; omega) (by simp; omega)
              simpa using this)
          obtain ⟨vs', e1, e2⟩ := this
          refine ⟨vs', ?_, e2⟩
          unfold Instr.fill
          simp only [h1, hu, List.size_toArray, hul]
          rw [if_neg (by simp; omega)]
          rw [h6]
          exact e1
        · cases h
      · cases h
    · cases h

theorem elVals_list (x : Sc) : ∀ (ks : List CK) (n : Nat), elVals x ks n = elVals (.l x.list) ks n
  | [], _ => rfl
  | k :: ks, n => by simp [elVals, elVals_list x ks]
theorem atCk_val {k : CK} {x : At} {e : Ex} (h : atCk k x = some e) {v : Value} (hr : x.rel c v) : v = k.val (e.ev c.ρ) := by
  unfold atCk at h
  split at h
  · split at h
    · rename_i hk; cases h; subst hk; exact hr
    · cases h
  · cases h; exact hr
  · cases h; exact hr
  · cases h
theorem atCks_val : ∀ {ks : List CK} {xs : List At} {e : Ex}, atCks ks xs = some e → ∀ {vs : List Value}, relL c xs vs → ∀ (l : List Sc), elVals (.l (l ++ (e.ev c.ρ).list)) ks l.length = vs
  | [], [], e, h, vs, hr, l => by
    cases vs with
    | nil => rfl
    | cons => exact hr.elim
  | k :: ks, x :: xs, e, h, vs, hr, l => by
    match vs, hr with
    | v :: vs, hr =>
      unfold atCks at h
      split at h
      · rename_i e1 e2 h1 h2
        cases h
        have ih := atCks_val h2 hr.2 (l ++ [e1.ev c.ρ])
        simp only [elVals, Ex.ev, U2.ev, Sc.list_l]
        rw [atCk_val h1 hr.1]
        congr 1
        · simp
        · simpa using ih
      · cases h
  | [], _ :: _, e, h, _, _, _ => by simp [atCks] at h
  | _ :: _, [], e, h, _, _, _ => by simp [atCks] at h
/-- An element, as an expression, has the cells of its value. -/
theorem elemOf_val {agg : Bool} {ks : List CK} {x : SC} {e : Ex} (h : elemOf agg ks x = some e) {v : Value} (hr : x.rel c v) : v.cells = (elCells agg ks (e.ev c.ρ)).toArray := by
  unfold elemOf at h
  split at h
  · split at h
    · rename_i k
      rw [atCk_val h hr]
      cases k <;> rfl
    · cases h
  · split at h
    · obtain ⟨vs, rfl, hr⟩ := hr
      have := atCks_val h hr []
      simp only [elCells, Value.cells]
      rw [elVals_list, ← this]; rfl
    · cases h

theorem elems_fill {agg : Bool} {ks : List CK} (hok : okForm agg ks) : ∀ (parts : List (Nat × SV)) (vparts : List (Nat × Value)) (n : Nat) (e : Ex) (vs : List Value), elemsOf agg ks n parts = some e → parts.length = vparts.length →
    (∀ i (h1 : i < parts.length) (h2 : i < vparts.length), (parts[i]).1 = (vparts[i]).1 ∧ (parts[i]).2.rel c (vparts[i]).2) → vs.length = (n + parts.length) * ks.length →
    Instr.fill (fun i => some (i * ks.length, ks.length)) vs.toArray vparts = some (vs.take (n * ks.length) ++ rowFlat agg ks (e.ev c.ρ).list).toArray ∧ (e.ev c.ρ).list.length = parts.length
  | [], [], n, e, vs, h, _, _, hl => by
    simp [elemsOf] at h; subst h
    refine ⟨?_, rfl⟩
    simp only [Instr.fill, Ex.ev, Sc.list_l, rowFlat, List.flatMap_nil, List.append_nil]
    rw [List.take_of_length_le (by simp at hl; omega)]
  | [], _ :: _, _, _, _, _, hl, _, _ => by simp at hl
  | _ :: _, [], _, _, _, _, hl, _, _ => by simp at hl
  | (i, x) :: parts, (i', v) :: vparts, n, e, vs, h, hl, hp, hlen => by
    have h0 := hp 0 (by simp) (by simp)
    simp only [List.getElem_cons_zero] at h0
    obtain ⟨rfl, hx⟩ := h0
    unfold elemsOf at h
    split at h
    · rename_i hi
      subst hi
      split at h
      · rename_i e1 e2 h1 h2
        cases h
        obtain ⟨y, hy1, hy2⟩ := Option.bind_eq_some_iff.1 h1
        have hv := elemOf_val hy2 (sc_of_rel hy1 hx)
        have hcl := elCells_length hok (e1.ev c.ρ)
        simp only [List.length_cons] at hlen
        have hfit : i * ks.length + (elCells agg ks (e1.ev c.ρ)).length ≤ vs.length := by
          rw [hcl, hlen, Nat.add_mul, Nat.add_mul]; omega
        have h6 := setAll0 (i * ks.length) (elCells agg ks (e1.ev c.ρ)) vs hfit _ rfl
        have ih := elems_fill hok parts vparts (i + 1) e2 (vs.take (i * ks.length) ++ elCells agg ks (e1.ev c.ρ) ++ vs.drop (i * ks.length + (elCells agg ks (e1.ev c.ρ)).length)) h2 (by simpa using hl) (fun j q1 q2 => by
          have := hp (j + 1) (by simp; omega) (by simp; omega)
          simpa using this) (by
            simp only [List.length_append, List.length_take, List.length_drop]
            rw [Nat.min_eq_left (by omega)]
            rw [show i + 1 + parts.length = i + (parts.length + 1) by omega, ← hlen]; omega)
        refine ⟨?_, by simp [Ex.ev, U2.ev, ih.2]⟩
        unfold Instr.fill
        simp only [hv, List.size_toArray, hcl]
        rw [if_neg (by simp; rw [hcl] at hfit; omega), h6, ih.1]
        congr 2
        rw [List.take_append_of_le_length (by simp; rw [hcl, Nat.min_eq_left (by omega), Nat.add_mul]; omega)]
        rw [List.take_of_length_le (by simp; rw [hcl, Nat.min_eq_left (by omega), Nat.add_mul]; omega)]
        simp [Ex.ev, U2.ev, rowFlat]
      · cases h
    · cases h
end
end Go.Proofs.YtkjgcalkkfgmlaaDoor
namespace Go.Proofs.YtkjgcalkkfgmlaaDoor
open Go.RowKit

section
variable {P : Program} {B : Nat} {w0 : World} {σ : St} {c : Ct} {a : Act} {w : World} {o : Oper} {rd : Rd} {pl : List TypeId}

theorem zero_run {ty : TypeId} {z : Value} (h : zeroOf P ty = some z) (w : World) : (zeroValue ty).run P w = .ok z w := by
  unfold zeroOf at h
  obtain ⟨i, h1, h2⟩ := Option.bind_eq_some_iff.1 h
  simp [zeroValue, typeInfo, h1, h2]

theorem build_ok (g : Good B w0 σ c a w) (hrd : RdOk σ c a rd) {ty : TypeId} {parts : Array (Nat × Operand)} (ho : o.op = .build ty parts) {r : OpR} (h : symBase P pl o rd = some r) : Does P B w0 σ c a w o r := by
  unfold symBase at h
  simp only [ho] at h
  have hparts : ∀ (place : Nat → Option (Nat × Nat)) (zs cs : List At) (z : Value) (us : List Value), fillL place zs (parts.toList.map fun (i, x) => (i, rd.ev x)) = some cs → relL c zs us →
      ∃ vs', Instr.fill place us.toArray (parts.map fun (i, x) => (i, a.eval x)).toList = some vs'.toArray ∧ relL c cs vs' := fun place zs cs z us h1 h2 => by
    refine fillL_run h1 h2 (relL_len h2).symm (by simp) (fun i q1 q2 => ?_)
    simp only [List.length_map, Array.length_toList] at q1
    simp only [List.getElem_map, Array.toList_map]
    exact ⟨trivial, hrd.ev _⟩
  split at h
  · rename_i z fs hz hu
    split at h
    · rename_i zs places hzs hp
      split at h
      · rename_i hk
        simp only [Option.map_eq_some_iff] at h
        obtain ⟨cs, hf, rfl⟩ := h
        obtain ⟨sv, h1, h2⟩ := Option.bind_eq_some_iff.1 hzs
        obtain ⟨us, hu2, hr⟩ := sv_cells h2 hk (svOf_rel (c := c) h1)
        obtain ⟨vs', e1, e2⟩ := hparts _ zs cs z us hf hr
        have hb : P.built ty (parts.map fun (i, x) => (i, a.eval x)).toList = some vs'.toArray := by
          unfold zeroOf at hz
          obtain ⟨i, hi1, hi2⟩ := Option.bind_eq_some_iff.1 hz
          simp only [Program.built, hi1, hu, hi2, hp, hu2]
          exact e1
        exact Does.quiet g (v := .agg vs'.toArray) (by simp [execOp, ho, run_build w ty _ _ hb]) ⟨vs', rfl, e2⟩
      · cases h
    · cases h
  · rename_i z n el hz hu
    split at h
    · rename_i zs ie hzs hie
      split at h
      · rename_i hk
        simp only [Option.map_eq_some_iff] at h
        obtain ⟨cs, hf, rfl⟩ := h
        obtain ⟨sv, h1, h2⟩ := Option.bind_eq_some_iff.1 hzs
        obtain ⟨us, hu2, hr⟩ := sv_cells h2 hk (svOf_rel (c := c) h1)
        obtain ⟨vs', e1, e2⟩ := hparts _ zs cs z us hf hr
        have hb : P.built ty (parts.map fun (i, x) => (i, a.eval x)).toList = some vs'.toArray := by
          unfold zeroOf at hz
          obtain ⟨i, hi1, hi2⟩ := Option.bind_eq_some_iff.1 hz
          simp only [Program.built, hi1, hu, hi2, hie, hu2]
          exact e1
        exact Does.quiet g (v := .agg vs'.toArray) (by simp [execOp, ho, run_build w ty _ _ hb]) ⟨vs', rfl, e2⟩
      · cases h
    · cases h
  · cases h

theorem buildSlice_ok (g : Good B w0 σ c a w) (hrd : RdOk σ c a rd) {ty : TypeId} {len : Nat} {parts : Array (Nat × Operand)} (ho : o.op = .buildSlice ty len parts) {r : OpR} (hfr : ∀ i ∈ r.nr, c.R i = none) (h : symBase P pl o rd = some r) : Does P B w0 σ c a w o r := by
  unfold symBase at h
  simp only [ho] at h
  split at h
  rotate_left
  · cases h
  rename_i el hu
  split at h
  rotate_left
  · cases h
  rename_i agg ks n hrt hn
  split at h
  rotate_left
  · cases h
  rename_i hcond
  obtain ⟨hnk, hps, hsmall, hokb⟩ := hcond
  obtain ⟨hok, hpos⟩ := okForm_of hokb
  simp only [Option.map_eq_some_iff] at h
  obtain ⟨e, he, rfl⟩ := h
  have hfr := hfr rd.nr (by simp)
  unfold sizeB at hn
  obtain ⟨i, hi, hin⟩ := Option.map_eq_some_iff.1 hn
  obtain ⟨z, hz, hzs⟩ := rowTy_zero hrt hi
  have hi2 : i.size = ks.length := by rw [hin, hnk]
  -- the cells
  have hzero : ∃ us : List Value, (Array.range (len * i.size)).map (z.cells[· % z.cells.size]!) = us.toArray ∧ us.length = len * ks.length := ⟨((Array.range (len * i.size)).map (z.cells[· % z.cells.size]!)).toList, by rw [Array.toArray_toList], by rw [Array.length_toList, Array.size_map, Array.size_range, hi2]⟩
  obtain ⟨us, hus, hul⟩ := hzero
  obtain ⟨f1, f2⟩ := elems_fill (c := c) hok (parts.toList.map fun (i, x) => (i, rd.ev x)) ((parts.map fun (i, x) => (i, a.eval x)).toList) 0 e us he (by simp) (fun j q1 q2 => by
    simp only [List.getElem_map, Array.toList_map]
    exact ⟨trivial, hrd.ev _⟩) (by simp [hps, hul])
  simp only [Nat.zero_mul, List.take_zero, List.nil_append, List.length_map, Array.length_toList, hps] at f1 f2
  have hfl := flat_length hok (e.ev c.ρ).list
  rw [f2] at hfl
  have hrun : (Instr.buildSlice ty len (parts.map fun (i, x) => (i, a.eval x))).run P w = .ok (.slice (some ⟨w.heap.size, 0, none⟩) len len) (w.alloc (.cells (rowFlat agg ks (e.ev c.ρ).list).toArray el)) := by
    by_cases h0 : len * i.size = 0
    · have hl0 : len = 0 := by
        rcases Nat.mul_eq_zero.1 h0 with h | h
        · exact h
        · omega
      subst hl0
      obtain rfl : parts = #[] := Array.eq_empty_of_size_eq_zero hps
      have hnil : rowFlat agg ks (e.ev c.ρ).list = [] := List.eq_nil_of_length_eq_zero (by rw [hfl]; simp)
      rw [hnil]
      have hr0 : ∀ f : Nat → Value, Array.map f (Array.range 0) = #[] := fun f => by apply Array.eq_empty_of_size_eq_zero; rw [Array.size_map, Array.size_range]
      simp [Instr.buildSlice, run_underlying hu, sizeOf, typeInfo, hi, newRow, Instr.fill, hr0]
    · exact run_buildSlice w ty el len _ _ i z hu hi hz (by rw [hi2, ← hnk]; omega) h0 (by rw [hus, hi2]; exact f1)
  have gg := g.newRow (w' := w.alloc (.cells (rowFlat agg ks (e.ev c.ρ).list).toArray el)) (g.below.alloc g.hB _) (by simp) (fun m hm => Below.heap_alloc w _ m hm) hfr (k := ⟨el, ks, agg, e, true⟩) (ad := some ⟨w.heap.size, 0, none⟩) (n := len) (cap := len)
    (by simp only; exact f2) (Nat.le_refl _) (by
      have : len * 1 ≤ len * n := Nat.mul_le_mul_left _ (by omega)
      simp only [maxLen]; omega)
    (fun _ => ⟨⟨hfl, .inr ⟨_, len, _, rfl, g.hB, heap_alloc_new w _, Nat.le_refl _, by
      have : len * 1 ≤ len * n := Nat.mul_le_mul_left _ (by omega)
      simp only [maxLen]; omega, by simpa using hfl, by simp only; rw [List.take_of_length_le (by rw [hfl]; exact Nat.le_refl _)]⟩⟩, fun p hp => by simp [Value.ownBlock] at hp; omega⟩) (fun h => by cases h)
  refine ⟨_, _, .slice (some ⟨w.heap.size, 0, none⟩) len len, { c with R := fun i => if i = rd.nr then some (.slice (some ⟨w.heap.size, 0, none⟩) len len) else c.R i }, by simp [execOp, ho, hrun], .inl rfl, ?_, fun _ _ => rfl, fun i hi => by simp at hi; simp [hi], ⟨by simp, _, _, _, rfl⟩, gg⟩
  exact ⟨rfl, rfl, fun _ _ e => e, fun i u e => by
    by_cases h : i = rd.nr
    · subst h; rw [hfr] at e; cases e
    · simp [h, e]⟩
theorem zeroEx_spec {z : Value} {k : CK} {x : Ex} (h : zeroEx z = some (k, x)) (ρ : List Sc) : z.cells = #[k.val (x.ev ρ)] := by
  unfold zeroEx at h
  split at h
  · split at h
    · rename_i hn; cases h; subst hn; rfl
    · cases h
  · split at h
    · rename_i hb; cases h; subst hb; rfl
    · cases h
  · cases h
theorem flat_rep (k : CK) (x : Sc) : ∀ n : Nat, rowFlat false [k] (List.replicate n x) = List.replicate n (k.val x)
  | 0 => rfl
  | n + 1 => by
    rw [List.replicate_succ, List.replicate_succ, ← flat_rep k x n]; rfl
theorem made_one (v : Value) (n : Nat) : (madeCells #[v] n).toList = List.replicate n v := by
  refine List.ext_getElem (by simp [size_madeCells]) fun i h1 h2 => ?_
  rw [List.getElem_replicate]
  simp [madeCells, Nat.mod_one]
theorem makeSlice_ok (g : Good B w0 σ c a w) (hrd : RdOk σ c a rd) {ty : TypeId} {x y : Operand} (ho : o.op = .makeSlice ty x y) {r : OpR} (hfr : ∀ i ∈ r.nr, c.R i = none) (h : symBase P pl o rd = some r) (hn : ∀ e ∈ r.needs, (e.ev c.ρ).bool = true) : Does P B w0 σ c a w o r := by
  unfold symBase at h
  simp only [ho] at h
  split at h
  rotate_left
  · cases h
  rename_i el k1 e k2 f hu hx hy
  split at h
  rotate_left
  · cases h
  rename_i i k z hi hz
  split at h
  rotate_left
  · cases h
  rename_i hcond
  obtain ⟨hs1, hb16⟩ := hcond
  cases h
  have hfr := hfr rd.nr (by simp)
  have vx := hrd.ev x
  have vy := hrd.ev y
  rw [hx] at vx
  rw [hy] at vy
  have vx : a.eval x = .int k1 (e.ev c.ρ).int := vx
  have vy : a.eval y = .int k2 (f.ev c.ρ).int := vy
  have n1 := hn (mk2 .le (.i 0) e) (by simp)
  have n2 := hn (mk2 .le e f) (by simp)
  have n3 := hn (mk2 .le f (.i 16777216)) (by simp)
  rw [mk2_ev] at n1 n2 n3
  have n1 : (0 : Int) ≤ (e.ev c.ρ).int := of_decide_eq_true n1
  have n2 : (e.ev c.ρ).int ≤ (f.ev c.ρ).int := of_decide_eq_true n2
  have n3 : (f.ev c.ρ).int ≤ 16777216 := of_decide_eq_true n3
  obtain ⟨zv, hz1, hz2⟩ := Option.bind_eq_some_iff.1 hz
  have hz1 : i.zero = some zv := by
    unfold zeroOf at hz1
    rw [hi] at hz1; exact hz1
  have hcells := zeroEx_spec hz2 c.ρ
  have hbytes : (i.bytes : Int) * (f.ev c.ρ).int ≤ 281474976710656 := by
    have : (i.bytes : Int) * (f.ev c.ρ).int ≤ 16 * 16777216 := Int.mul_le_mul (by omega) n3 (by omega) (by omega)
    omega
  have hrun := run_make (P := P) w ty el i zv hu hi hz1 k1 k2 (e.ev c.ρ).int (f.ev c.ρ).int n1 n2 hbytes (by omega)
  rw [hs1, Nat.mul_one, hcells] at hrun
  generalize hL : (e.ev c.ρ).int.toNat = len at *
  generalize hC : (f.ev c.ρ).int.toNat = cap at *
  have hlc : len ≤ cap := by omega
  have hcm : cap ≤ maxLen := by simp only [maxLen]; omega
  have hev : ((Ex.o .rep z e).ev c.ρ).list = List.replicate len (z.ev c.ρ) := by
    show List.replicate (e.ev c.ρ).int.toNat (z.ev c.ρ) = _
    rw [hL]
  have gg := g.newRow (w' := w.alloc (.cells (madeCells #[k.val (z.ev c.ρ)] cap) el)) (g.below.alloc g.hB _) (by simp) (fun m hm => Below.heap_alloc w _ m hm) hfr (k := ⟨el, [k], false, .o .rep z e, true⟩) (ad := some ⟨w.heap.size, 0, none⟩) (n := len) (cap := cap)
    (by simp only; rw [hev, List.length_replicate]) hlc hcm
    (fun _ => ⟨⟨by simp only; rw [hev, flat_rep, List.length_replicate]; simp, .inr ⟨_, cap, _, rfl, g.hB, heap_alloc_new w _, hlc, hcm, by simp [size_madeCells], by
      simp only; rw [hev, flat_rep, made_one, List.take_replicate]; simp; omega⟩⟩, fun p hp => by simp [Value.ownBlock] at hp; omega⟩) (fun h => by cases h)
  refine ⟨_, _, .slice (some ⟨w.heap.size, 0, none⟩) len cap, { c with R := fun i => if i = rd.nr then some (.slice (some ⟨w.heap.size, 0, none⟩) len cap) else c.R i }, by simp [execOp, ho, vx, vy, hrun], .inl rfl, ?_, fun _ _ => rfl, fun i hi => by simp at hi; simp [hi], ⟨by simp, _, _, _, rfl⟩, gg⟩
  exact ⟨rfl, rfl, fun _ _ e => e, fun i u e => by
    by_cases h : i = rd.nr
    · subst h; rw [hfr] at e; cases e
    · simp [h, e]⟩
end
end Go.Proofs.YtkjgcalkkfgmlaaDoor
