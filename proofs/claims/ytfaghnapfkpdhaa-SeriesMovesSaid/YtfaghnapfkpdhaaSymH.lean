/-
  What an operation does: memory.
-/
import Derived.Test.YtfaghnapfkpdhaaSymG
namespace Go.Proofs.Ytfaghnapfkpdhaa
open Go.RowKit

section
variable {P : Program} {B : Nat} {w0 : World} {σ : St} {c : Ct} {a : Act} {w : World} {o : Oper} {rd : Rd}

theorem known_one {x : At} {u : Value} (hk : x.known = true) (hr : x.rel c u) : u.oneCell' = true := by
  cases x <;> simp only [At.known, At.rel] at hk hr
  case top => cases hk
  case int => subst hr; rfl
  case bool => subst hr; rfl
  case str => subst hr; rfl
  case ptr => obtain ⟨n, _, rfl⟩ := hr; rfl
  case pel => obtain ⟨_, _, _, _, _, _, _, rfl⟩ := hr; rfl
  case nilp => subst hr; rfl
  case vec => obtain ⟨_, _, _, _, rfl⟩ := hr; rfl
  case sl => obtain ⟨_, _, _, _, _, _, rfl, _⟩ := hr; rfl
  case nils => subst hr; rfl
  case fn => obtain ⟨_, _, rfl⟩ := hr; rfl
theorem knownL : ∀ {xs : List At} {vs : List Value}, xs.all At.known = true → relL c xs vs → ∀ u ∈ vs, u.oneCell' = true
  | [], [], _, _, _, h => by cases h
  | x :: xs, v :: vs, hk, hr, u, h => by
    simp only [List.all_cons, Bool.and_eq_true] at hk
    rcases List.mem_cons.1 h with rfl | h
    · exact known_one hk.1 hr.1
    · exact knownL hk.2 hr.2 u h
  | [], _ :: _, _, hr, _, _ => hr.elim
  | _ :: _, [], _, hr, _, _ => hr.elim
theorem one_cells {v : Value} (h : v.oneCell' = true) : v.cells = #[v] := by cases v <;> first | rfl | cases h
theorem sv_cells {sv : SV} {cs : List At} (h : sv.cells = some cs) (hk : cs.all At.known = true) {v : Value} (hv : sv.rel c v) : ∃ vs : List Value, v.cells = vs.toArray ∧ relL c cs vs := by
  rcases sv with (x | xs) | xs
  · simp [SV.cells] at h; subst h
    simp only [List.all_cons, Bool.and_eq_true] at hk
    exact ⟨[v], one_cells (known_one hk.1 hv), hv, trivial⟩
  · simp [SV.cells] at h; subst h
    obtain ⟨vs, rfl, hr⟩ := hv
    exact ⟨vs, rfl, hr⟩
  · simp [SV.cells] at h

theorem spliceL_rel : ∀ {cs xs ys : List At} {off : Nat} {vs us : List Value}, spliceL cs off xs = some ys → relL c cs vs → relL c xs us → relL c ys (vs.take off ++ us ++ vs.drop (off + us.length)) ∧ off + us.length ≤ vs.length
  | cs, [], ys, 0, vs, us, h, hc, hx => by
    cases us with
    | nil => cases cs <;> simp [spliceL] at h <;> subst h <;> simpa using hc
    | cons => exact hx.elim
  | [], _ :: _, _, 0, _, _, h, _, _ => by simp [spliceL] at h
  | [], xs, _, n + 1, _, _, h, _, _ => by simp [spliceL] at h
  | x :: cs, y :: xs, ys, 0, vs, us, h, hc, hx => by
    match vs, us, hc, hx with
    | v :: vs, u :: us, hc, hx =>
      simp only [spliceL, Option.map_eq_some_iff] at h
      obtain ⟨zs, h1, rfl⟩ := h
      have := spliceL_rel h1 hc.2 hx.2
      simp only [List.take_zero, List.nil_append, Nat.zero_add, List.length_cons, List.cons_append, List.drop_succ_cons] at this ⊢
      exact ⟨⟨hx.1, this.1⟩, by omega⟩
  | x :: cs, xs, ys, n + 1, vs, us, h, hc, hx => by
    match vs, hc with
    | v :: vs, hc =>
      simp only [spliceL, Option.map_eq_some_iff] at h
      obtain ⟨zs, h1, rfl⟩ := h
      have := spliceL_rel h1 hc.2 hx
      simp only [List.take_succ_cons, List.cons_append, List.length_cons]
      rw [show n + 1 + us.length = (n + us.length) + 1 by omega, List.drop_succ_cons]
      exact ⟨⟨hc.1, this.1⟩, by omega⟩

theorem store_ok (g : Good B w0 σ c a w) {ty : TypeId} {x y : Operand} (ho : o.op = .store ty x y) {p off : Nat} {k : Bk} (hx : (At.ptr p off).rel c (a.eval x)) (hk : σ.blk p = some k)
    {sv : SV} {xs : List At} (hxs : sv.cells = some xs) (hkn : xs.all At.known = true) (hy : sv.rel c (a.eval y)) (hn : sizeB P ty = some xs.length) {cs : List At} (hc : spliceL k.cells off xs = some cs) :
    Does P B w0 σ c a w o ⟨[], none, .t [], [(p, some ⟨cs, k.ty⟩)], [], [], []⟩ := by
  obtain ⟨n, hb, hx⟩ := hx
  obtain ⟨n', vs, e, h1, h2, h3⟩ := g.blks p k hk
  rw [hb] at e; cases e
  obtain ⟨us, hu, hr⟩ := sv_cells hxs hkn hy
  obtain ⟨hz, hle⟩ := spliceL_rel hc h3 hr
  have hone := knownL hkn hr
  have hst := run_storeCells_at P n off k.ty us 0 vs.toArray w h2 (by simpa using hle) hone
  simp only [Nat.add_zero] at hst
  refine ⟨.skip, _, undef, c, ?_, .inr ⟨rfl, rfl⟩, .refl c, fun _ _ => rfl, fun _ _ => rfl, ⟨[], rfl, trivial⟩,
    g.store hk hb hz (w' := w.setRow n (vs.take off ++ us ++ vs.drop (off + us.length)).toArray) ?_ ?_ ?_ ?_⟩
  · have hlen : us.length = xs.length := relL_len hr
    simp [execOp, ho, Instr.storeAt, hx, Instr.sureAddr, storeVar, run_sizeB hn, hu, hlen, hst]
  · refine ⟨g.below.os, g.below.tape, g.below.output, Nat.le_trans g.below.size (by simp [World.setRow]), fun j hj => ?_⟩
    rw [setRow_other w n j _ (by omega)]
    exact g.below.block j hj
  · simp [World.setRow]
  · exact setRow_heap w n _ _ _ _ h2
  · intro m hm; exact setRow_other w n m _ hm

theorem box_ok (g : Good B w0 σ c a w) {p : Nat} (hp : c.β p = none) {ty : TypeId} {cs : List At} {vs : List Value} (hr : relL c cs vs) (he : (execOp a.eval o).run P w = .ok (.value (.pointer (some ⟨w.heap.size, 0, none⟩))) (w.alloc (.cells vs.toArray ty))) :
    Does P B w0 σ c a w o ⟨[], none, .at (.ptr p 0), [(p, some ⟨cs, ty⟩)], [], [p], []⟩ := by
  have hle : c.le { c with β := fun i => if i = p then some w.heap.size else c.β i } := ⟨rfl, rfl, fun i n e => by
    by_cases h : i = p
    · subst h; rw [hp] at e; cases e
    · simp [h, e], fun _ _ e => e⟩
  exact ⟨_, _, _, _, he, .inl rfl, hle, fun i hi => by simp at hi; simp [hi], fun _ _ => rfl, ⟨_, by simp, rfl⟩, g.alloc hp (k := ⟨cs, ty⟩) hr⟩

theorem load_blk (g : Good B w0 σ c a w) {ty : TypeId} {x : Operand} (ho : o.op = .load ty x) {p off : Nat} {k : Bk} (hx : (At.ptr p off).rel c (a.eval x)) (hk : σ.blk p = some k) {sv : SV} (hs : part? P ty k.cells off = some sv) :
    Does P B w0 σ c a w o (OpR.pure sv) := by
  obtain ⟨n, hb, hx⟩ := hx
  obtain ⟨n', vs, e, h1, h2, h3⟩ := g.blks p k hk
  rw [hb] at e; cases e
  obtain ⟨v, hv, hr⟩ := loadVar_run (P := P) (base := 0) hs h3 (n := n) (w := w) (fun j u hj => by
    have := cell_of_row w n (0 + j) vs.toArray k.ty (0, 0) h2
    rw [this]; simpa using hj)
  rw [Nat.zero_add] at hv
  exact Does.quiet g (by simp [execOp, ho, Instr.loadAt, hx, Instr.sureAddr, hv]) hr

theorem load_row (g : Good B w0 σ c a w) {ty : TypeId} {x : Operand} (ho : o.op = .load ty x) {r : Nat} {ix : Ex} {off : Nat} {k : Rw} (hx : (At.pel r k.ks.length ix off).rel c (a.eval x)) (hk : σ.row r = some k) (hok : okFormB k.agg k.ks = true)
    {sv : SV} (hs : part? P ty (cellsOf k.agg k.ks (k.elem ix)) off = some sv) :
    Does P B w0 σ c a w o (OpR.pure sv) := by
  obtain ⟨n, o', len, cap, e, h0, hlt, hx⟩ := hx
  obtain ⟨ad, m, cap', e', h1, h2, h3, h4⟩ := g.read hk
  rw [e] at e'; cases e'
  have hrel := cellsOf_rel (c := c) k.agg k.ks (k.elem ix)
  have hel : (k.elem ix).ev c.ρ = (k.cont.ev c.ρ).list.getD (ix.ev c.ρ).int.toNat (.i 0) := by unfold Rw.elem; rw [mk2_ev]; rfl
  rw [hel] at hrel
  obtain ⟨v, hv, hr⟩ := loadVar_run (P := P) (base := o' + (ix.ev c.ρ).int.toNat * k.ks.length) hs hrel (n := n) (w := w) (fun j u hj => by
    have := flat_get (okForm_of hok).1 _ _ j u (by omega) hj
    obtain ⟨p, q, e1, e2, _⟩ := h4 _ _ this
    cases e1
    rw [Nat.add_assoc]; exact e2)
  exact Does.quiet g (by simp [execOp, ho, Instr.loadAt, hx, Instr.sureAddr, hv]) hr
end
end Go.Proofs.Ytfaghnapfkpdhaa
