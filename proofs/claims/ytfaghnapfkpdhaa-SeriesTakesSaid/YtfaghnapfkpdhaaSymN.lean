/-
  What an operation does: the sum of it.
-/
import Derived.Test.YtfaghnapfkpdhaaSymM
namespace Go.Proofs.Ytfaghnapfkpdhaa
open Go.RowKit

section
variable {P : Program} {B : Nat} {w0 : World} {σ : St} {c : Ct} {a : Act} {w : World} {o : Oper} {rd : Rd} {pl : List TypeId}

theorem add_lit (p o n : Nat) : (⟨p, o, none⟩ : Addr).add n = ⟨p, o + n, none⟩ := by unfold Addr.add; split <;> simp_all
theorem lo_fits {lo e : Ex} {n m : Nat} (hm : m ≤ maxLen) (h0 : 0 ≤ (lo.ev c.ρ).int) (h1 : 0 ≤ (e.ev c.ρ).int) (h2 : (e.ev c.ρ).int ≤ n) (h3 : (lo.ev c.ρ).int + n ≤ m) : ((mk2 (.add .i64) lo e).ev c.ρ).int = (lo.ev c.ρ).int + (e.ev c.ρ).int := by
  rw [mk2_ev]
  exact wrap_in (by omega) (by simp only [maxLen] at hm; omega)

theorem index_ok (g : Good B w0 σ c a w) (hrd : RdOk σ c a rd) {ty : TypeId} {x i : Operand} (ho : o.op = .indexAddr ty x i) {r : OpR} (h : symBase P pl o rd = some r) (hn : ∀ e ∈ r.needs, (e.ev c.ρ).bool = true) : Does P B w0 σ c a w o r := by
  unfold symBase at h
  simp only [ho] at h
  have hx := hrd.ev x
  have hi := hrd.ev i
  split at h
  · rename_i el k e hu h2
    rw [h2] at hi
    have hi : a.eval i = .int k (e.ev c.ρ).int := hi
    split at h
    · rename_i rr kk lo len n hs hsz
      split at h
      · rename_i hnk
        cases h
        have n1 := hn (mk2 .le (.i 0) e) (by simp)
        have n2 := hn (mk2 .lt e len) (by simp)
        rw [mk2_ev] at n1 n2
        have n1 : (0 : Int) ≤ (e.ev c.ρ).int := of_decide_eq_true n1
        have n2 : (e.ev c.ρ).int < (len.ev c.ρ).int := of_decide_eq_true n2
        obtain ⟨ad, m, cap, hv, hl, hlo, hmc, hcm, hcl, hmat⟩ := sliceOf_spec g hrd.row hs hx
        simp only at hmat
        obtain ⟨_, hk, hok, hpos, hform, hle, hL, hvec, hpl, hcell⟩ := hmat
        obtain ⟨p, q, m', cap', e1, e2, e3⟩ := hpl (by omega)
        obtain ⟨ad4, n4, cap4, f1, f2, f3, f4, _⟩ := g.read hk
        rw [e1] at f1; cases f1
        refine Does.quiet g (v := .pointer (some ((⟨p, q + (lo.ev c.ρ).int.toNat * kk.ks.length, none⟩ : Addr).add ((e.ev c.ρ).int.toNat * n)))) ?_ ?_
        · simp [execOp, ho, Instr.indexAt, asIntOf, hi, run_underlying hu, hv, e3, n1, (by omega : (e.ev c.ρ).int < (m : Int)), run_sizeB hsz]
        · rw [add_lit]
          rcases hform with hf | ⟨es, lo', len', hf⟩
          · obtain ⟨hlo0, _⟩ := hvec hf
            subst hlo0
            rw [hf]
            refine ⟨p, q, m', cap', e1, n1, by show (e.ev c.ρ).int < m'; simp [Ex.ev] at hle; omega, ?_⟩
            show _ = Value.pointer (some ⟨p, q + (e.ev c.ρ).int.toNat * n + 0, none⟩)
            simp [Ex.ev, hnk]
          · rw [hf]
            have hfit := lo_fits (c := c) (lo := lo) (e := e) (n := m) (m := m') (by omega) hlo n1 (by omega) (by omega)
            refine ⟨p, q, m', cap', e1, ?_, ?_, ?_⟩
            · show 0 ≤ ((mk2 (.add .i64) lo e).ev c.ρ).int
              rw [hfit]; omega
            · show ((mk2 (.add .i64) lo e).ev c.ρ).int < m'
              rw [hfit]; omega
            · show _ = Value.pointer (some ⟨p, q + ((mk2 (.add .i64) lo e).ev c.ρ).int.toNat * n + 0, none⟩)
              rw [hfit, Int.toNat_add hlo n1, Nat.add_mul, hnk, Nat.add_assoc]
              rfl
      · cases h
    · cases h
      have := hn (.b false) (by simp)
      cases this
    · cases h
  · rename_i len el k z hu h2
    rw [h2] at hi
    have hi : a.eval i = .int k z := hi
    split at h
    · rename_i p off n h1 hsz
      split at h
      · rename_i hz
        cases h
        rw [h1] at hx
        obtain ⟨m, hb, hv⟩ := hx
        refine Does.quiet g (v := .pointer (some ((⟨m, off, none⟩ : Addr).add (z.toNat * n)))) ?_ ⟨m, hb, by rw [add_lit]⟩
        simp [execOp, ho, Instr.indexAt, asIntOf, hi, run_underlying hu, hv, Instr.sureAddr, hz, run_sizeB hsz]
      · cases h
    · cases h
  · cases h

theorem slice_ok (g : Good B w0 σ c a w) (hrd : RdOk σ c a rd) {ty : TypeId} {x : Operand} {lo hi mx : Option Operand} (ho : o.op = .slice ty x lo hi mx) {r : OpR} (h : symBase P pl o rd = some r) (hn : ∀ e ∈ r.needs, (e.ev c.ρ).bool = true) : Does P B w0 σ c a w o r := by
  unfold symBase at h
  simp only [ho] at h
  have hx := hrd.ev x
  have hlow : ∀ (l : Ex), lowOf rd lo = some l → (lo = none ∧ (l.ev c.ρ).int = 0) ∨ ∃ y k, lo = some y ∧ a.eval y = .int k (l.ev c.ρ).int := by
    intro l hl
    unfold lowOf at hl
    cases lo with
    | none => simp at hl; subst hl; exact .inl ⟨rfl, rfl⟩
    | some y =>
      simp only [Option.map_eq_some_iff] at hl
      obtain ⟨⟨k, e⟩, h1, rfl⟩ := hl
      have hy := hrd.ev y
      refine .inr ⟨y, k, rfl, ?_⟩
      unfold SV.int? at h1
      split at h1
      · rename_i h2; cases h1; rw [h2] at hy; exact hy
      · cases h1
  have hhigh : ∀ (d l : Ex), highOf rd hi d = some l → (hi = none ∧ l = d) ∨ ∃ y k, hi = some y ∧ a.eval y = .int k (l.ev c.ρ).int := by
    intro d l hl
    unfold highOf at hl
    cases hi with
    | none => simp at hl; exact .inl ⟨rfl, hl.symm⟩
    | some y =>
      simp only [Option.map_eq_some_iff] at hl
      obtain ⟨⟨k, e⟩, h1, rfl⟩ := hl
      have hy := hrd.ev y
      refine .inr ⟨y, k, rfl, ?_⟩
      unfold SV.int? at h1
      split at h1
      · rename_i h2; cases h1; rw [h2] at hy; exact hy
      · cases h1
  cases mx with
  | some m => simp at h
  | none =>
  simp only at h
  split at h
  · -- a string
    rename_i hu
    split at h
    rotate_left
    · cases h
    rename_i s hs
    rw [hs] at hx
    have hx : a.eval x = .string (s.ev c.ρ).str := hx
    split at h
    · rename_i l hh h1 h2
      cases h
      have n1 := hn (mk2 .le (.i 0) l) (by simp)
      have n2 := hn (mk2 .le l hh) (by simp)
      have n3 := hn (mk2 .le hh (mk1 .slen s)) (by simp)
      rw [mk2_ev] at n1 n2 n3
      rw [mk1_ev] at n3
      have n1 : (0 : Int) ≤ (l.ev c.ρ).int := of_decide_eq_true n1
      have n2 : (l.ev c.ρ).int ≤ (hh.ev c.ρ).int := of_decide_eq_true n2
      have n3 : (hh.ev c.ρ).int ≤ ((s.ev c.ρ).str.size : Int) := of_decide_eq_true n3
      refine Does.quiet g (v := .string ((s.ev c.ρ).str.extract (l.ev c.ρ).int.toNat (hh.ev c.ρ).int.toNat)) ?_ (by show _ = _; rw [mk3_ev]; rfl)
      have q1 : (0 : Int) ≤ (hh.ev c.ρ).int := by omega
      have q2 : ((hh.ev c.ρ).int.toNat : Int) = (hh.ev c.ρ).int := by omega
      rcases hlow l h1 with ⟨rfl, e1⟩ | ⟨y, k, rfl, e1⟩ <;> rcases hhigh _ hh h2 with ⟨rfl, e2⟩ | ⟨y', k', rfl, e2⟩
      · subst e2
        simp [execOp, ho, Instr.sliceAt, run_underlying hu, Instr.slice, Instr.sliceBounds, hx, e1, mk1_ev, U1.ev]
      · simp [execOp, ho, Instr.sliceAt, run_underlying hu, Instr.slice, Instr.sliceBounds, Instr.sliceBound, asIntOf, hx, e1, e2, q1, n3]
      · subst e2
        have n4 : (l.ev c.ρ).int ≤ ((s.ev c.ρ).str.size : Int) := by omega
        simp [execOp, ho, Instr.sliceAt, run_underlying hu, Instr.slice, Instr.sliceBounds, Instr.sliceBound, asIntOf, hx, e1, n1, n4, mk1_ev, U1.ev]
      · simp [execOp, ho, Instr.sliceAt, run_underlying hu, Instr.slice, Instr.sliceBounds, Instr.sliceBound, asIntOf, hx, e1, e2, n1, q1, n3, q2, n2]
    · cases h
  · -- a row
    rename_i el hu
    split at h
    · rename_i rr kk b n hs
      split at h
      · rename_i l hh k h1 h2 hsz
        split at h
        · rename_i hkk
          cases h
          have n1 := hn (mk2 .le (.i 0) l) (by simp)
          have n2 := hn (mk2 .le l hh) (by simp)
          have n3 := hn (mk2 .le hh n) (by simp)
          rw [mk2_ev] at n1 n2 n3
          have n1 : (0 : Int) ≤ (l.ev c.ρ).int := of_decide_eq_true n1
          have n2 : (l.ev c.ρ).int ≤ (hh.ev c.ρ).int := of_decide_eq_true n2
          have n3 : (hh.ev c.ρ).int ≤ (n.ev c.ρ).int := of_decide_eq_true n3
          obtain ⟨ad, m, cap, hv, hl, hlo, hmc, hcm, hcl, hmat⟩ := sliceOf_spec g hrd.row hs hx
          simp only at hmat
          obtain ⟨_, hk, hok, hpos, hform, hle, hL, hvec, hpl, hcell⟩ := hmat
          obtain ⟨ad4, n4, cap4, f1, f2, f3, f4, _⟩ := g.read hk
          have q1 : (0 : Int) ≤ (hh.ev c.ρ).int := by omega
          have q3 : (hh.ev c.ρ).int ≤ (cap : Int) := by omega
          have hh2 : ((hh.ev c.ρ).int.toNat : Int) = (hh.ev c.ρ).int := by omega
          have hrun : (execOp a.eval o).run P w = .ok (.value (sliced ad (l.ev c.ρ).int.toNat (hh.ev c.ρ).int.toNat cap k)) w := by
            rcases hlow l h1 with ⟨rfl, e1⟩ | ⟨y, k', rfl, e1⟩ <;> rcases hhigh _ hh h2 with ⟨rfl, e2⟩ | ⟨y', k'', rfl, e2⟩
            · subst e2
              simp [execOp, ho, Instr.sliceAt, run_underlying hu, Instr.slice, Instr.sliceBounds, hv, e1, run_sizeB hsz, sliced, hl]
            · simp [execOp, ho, Instr.sliceAt, run_underlying hu, Instr.slice, Instr.sliceBounds, Instr.sliceBound, asIntOf, hv, e1, e2, q1, q3, run_sizeB hsz, sliced]
            · subst e2
              have n4' : (l.ev c.ρ).int ≤ (m : Int) := by omega
              simp [execOp, ho, Instr.sliceAt, run_underlying hu, Instr.slice, Instr.sliceBounds, Instr.sliceBound, asIntOf, hv, e1, n1, n4', run_sizeB hsz, sliced, hl]
            · simp [execOp, ho, Instr.sliceAt, run_underlying hu, Instr.slice, Instr.sliceBounds, Instr.sliceBound, asIntOf, hv, e1, e2, n1, q1, q3, hh2, n2, run_sizeB hsz, sliced]
          have hsub : ((mk2 (.sub .i64) hh l).ev c.ρ).int = (hh.ev c.ρ).int - (l.ev c.ρ).int := by
            rw [mk2_ev]; exact wrap_in (by omega) (by simp only [maxLen] at hcm; omega)
          have key : ∀ (ix : Ex), (ix.ev c.ρ).int = (b.ev c.ρ).int + (l.ev c.ρ).int → (At.sl rr k ix (mk2 (.sub .i64) hh l)).rel c (sliced ad (l.ev c.ρ).int.toNat (hh.ev c.ρ).int.toNat cap k) := by
            intro ix hix
            refine ⟨ad4, n4, cap4, (if cap = (l.ev c.ρ).int.toNat then ad else ad.map (·.add ((l.ev c.ρ).int.toNat * k))), cap - (l.ev c.ρ).int.toNat, f1, ?_, by rw [hix]; omega, by rw [hsub]; omega, by rw [hix, hsub]; omega, by rw [hsub]; omega, by omega, fun hp => ?_⟩
            · rw [hsub]
              show Value.slice _ _ _ = _
              congr 1
              omega
            · rw [hsub] at hp
              obtain ⟨p, q, m', cap', e1, e2, e3⟩ := hpl (by omega)
              rw [f1] at e1; cases e1
              refine ⟨p, q, rfl, ?_⟩
              have hne : ¬ (cap = (l.ev c.ρ).int.toNat) := by omega
              rw [if_neg hne, e3]
              simp only [Option.map_some, add_lit]
              rw [hix, Int.toNat_add hlo n1, Nat.add_mul, hkk, Nat.add_assoc]
          refine Does.quiet g hrun ?_
          rcases hform with hf | ⟨es, lo', len', hf⟩
          · obtain ⟨hb0, _⟩ := hvec hf
            subst hb0
            rw [hf]
            exact key l (by simp [Ex.ev])
          · rw [hf]
            exact key (mk2 (.add .i64) b l) (lo_fits (c := c) (lo := b) (e := l) (n := m) (m := n4) (by omega) hlo n1 (by omega) (by omega))
        · cases h
      · cases h
    · cases h
  · cases h

theorem flat_set {agg : Bool} {ks : List CK} (h : okForm agg ks) : ∀ (l : List Sc) (i : Nat) (x : Sc), i < l.length →
    rowFlat agg ks (l.set i x) = (rowFlat agg ks l).take (i * ks.length) ++ elCells agg ks x ++ (rowFlat agg ks l).drop (i * ks.length + ks.length)
  | [], i, _, hi => by simp at hi
  | y :: l, 0, x, _ => by
    simp only [List.set_cons_zero, rowFlat, List.flatMap_cons, Nat.zero_mul, List.take_zero, List.nil_append, Nat.zero_add]
    rw [List.drop_append_of_le_length (by rw [elCells_length h]; exact Nat.le_refl _), List.drop_of_length_le (by rw [elCells_length h]; exact Nat.le_refl _)]
    simp
  | y :: l, i + 1, x, hi => by
    have ih := flat_set h l i x (by simpa using hi)
    have hy := elCells_length h y
    have e1 : (i + 1) * ks.length = (elCells agg ks y).length + i * ks.length := by rw [hy, Nat.add_mul]; omega
    have e2 : (i + 1) * ks.length + ks.length = (elCells agg ks y).length + (i * ks.length + ks.length) := by rw [hy, Nat.add_mul]; omega
    simp only [List.set_cons_succ, rowFlat, List.flatMap_cons] at ih ⊢
    rw [ih, e2, e1, List.take_length_add_append, List.drop_length_add_append]
    simp

theorem take_splice {α : Type} (cur E : List α) (A s : Nat) {M : Nat} (hE : E.length = s) (h1 : A + s ≤ M) (h2 : M ≤ cur.length) :
    (cur.take A ++ E ++ cur.drop (A + s)).take M = (cur.take M).take A ++ E ++ (cur.take M).drop (A + s) := by
  have e1 : (cur.take M).take A = cur.take A := by rw [List.take_take, Nat.min_eq_left (by omega)]
  have hl : (cur.take A ++ E).length = A + s := by simp [hE, Nat.min_eq_left (by omega : A ≤ cur.length)]
  rw [e1, List.take_append, hl, List.take_of_length_le (by omega), List.drop_take]

theorem rowStore_ok (g : Good B w0 σ c a w) {ty : TypeId} {x y : Operand} (ho : o.op = .store ty x y) {rr : Nat} {ix : Ex} {k : Rw} (hx : (At.pel rr k.ks.length ix 0).rel c (a.eval x)) (hk : σ.row rr = some k) (hown : k.own = true) (hokb : okFormB k.agg k.ks = true)
    (hsz : sizeB P ty = some k.ks.length) {sv : SV} {e : Ex} (he : sv.sc.bind (elemOf k.agg k.ks) = some e) (hy : sv.rel c (a.eval y)) :
    Does P B w0 σ c a w o ⟨[], none, .t [], [], [(rr, some { k with cont := mk3 .upd k.cont ix e })], [], []⟩ := by
  obtain ⟨hok, hpos⟩ := okForm_of hokb
  obtain ⟨p, q, m, cap, hR, h0, hlt, hxv⟩ := hx
  obtain ⟨v, hR', ad, n, cap', rfl, h1, h2, h3, h4, _⟩ := g.rows rr k hk
  rw [hR] at hR'; cases hR'
  have hw := h4 hown
  obtain ⟨sc, hs1, hs2⟩ := Option.bind_eq_some_iff.1 he
  have hcells := elemOf_val hs2 (sc_of_rel hs1 hy)
  rcases hw.2 with ⟨hv, _⟩ | ⟨p', cap2, cur, hv, hb, hheap, hnc, hcm, hcs, htake⟩
  · cases hv
  cases hv
  have hel := elCells_length hok (e.ev c.ρ)
  have hfit : (ix.ev c.ρ).int.toNat * k.ks.length + (elCells k.agg k.ks (e.ev c.ρ)).length ≤ cur.size := by
    rw [hel, hcs, ← Nat.succ_mul]
    exact Nat.mul_le_mul_right _ (by omega)
  have hone : ∀ u ∈ elCells k.agg k.ks (e.ev c.ρ), u.oneCell' = true := fun u hu => flat_one k.agg k.ks [e.ev c.ρ] u (by simp [rowFlat, hu])
  have hst := run_storeCells_at P p ((ix.ev c.ρ).int.toNat * k.ks.length) k.el (elCells k.agg k.ks (e.ev c.ρ)) 0 cur w hheap (by simpa using hfit) hone
  simp only [Nat.add_zero] at hst
  have hrow : rowFlat k.agg k.ks ((mk3 .upd k.cont ix e).ev c.ρ).list = (rowFlat k.agg k.ks (k.cont.ev c.ρ).list).take ((ix.ev c.ρ).int.toNat * k.ks.length) ++ elCells k.agg k.ks (e.ev c.ρ) ++ (rowFlat k.agg k.ks (k.cont.ev c.ρ).list).drop ((ix.ev c.ρ).int.toNat * k.ks.length + k.ks.length) := by
    rw [mk3_ev]; exact flat_set hok (k.cont.ev c.ρ).list (ix.ev c.ρ).int.toNat (e.ev c.ρ) (by omega)
  have hlist : ((mk3 .upd k.cont ix e).ev c.ρ).list.length = m := by rw [mk3_ev]; simp [U3.ev, h1]
  have hfl := flat_length hok (k.cont.ev c.ρ).list
  rw [h1] at hfl
  have hcurl : cur.toList.length = cap * k.ks.length := by simpa using hcs
  have hmul : m * k.ks.length ≤ cap * k.ks.length := Nat.mul_le_mul_right _ h2
  have hi1 : (ix.ev c.ρ).int.toNat * k.ks.length + k.ks.length ≤ m * k.ks.length := by rw [← Nat.succ_mul]; exact Nat.mul_le_mul_right _ (by omega)
  have gg := g.turnRow hk hown hR (w' := w.setRow p (cur.toList.take ((ix.ev c.ρ).int.toNat * k.ks.length) ++ elCells k.agg k.ks (e.ev c.ρ) ++ cur.toList.drop ((ix.ev c.ρ).int.toNat * k.ks.length + (elCells k.agg k.ks (e.ev c.ρ)).length)).toArray)
    ⟨rfl, rfl, rfl, by simp [World.setRow], fun j _ hj => setRow_other w p j _ (fun e' => hj (by simp [Value.ownBlock, e']))⟩ (r' := rr) (k' := { k with cont := mk3 .upd k.cont ix e }) hown (ad := some ⟨p, 0, none⟩) (n := m) (cap := cap) hlist h2 h3
    ⟨by rw [flat_length hok, hlist], .inr ⟨p, cap, _, rfl, hb, setRow_heap w p cur _ k.el _ hheap, hnc, hcm, by
      simp only [List.size_toArray, List.length_append, List.length_take, List.length_drop, hel, hcurl]; omega, by
      rw [hrow, ← htake]
      simp only [hel]
      exact take_splice _ _ _ _ hel (by omega) (by omega)⟩⟩ (.inl rfl) (.inr ⟨rfl, rfl⟩)
  have hc : (fun i => if i = rr then some (Value.slice (some ⟨p, 0, none⟩) m cap) else c.R i) = c.R := by
    funext i
    by_cases h : i = rr
    · subst h; simp [hR]
    · simp [h]
  rw [hc] at gg
  have hrows : ∀ (z : Option Rw), setN none (setN none σ.rows rr none) rr z = setN none σ.rows rr z := by
    intro z
    have : ∀ (l : List (Option Rw)) (n : Nat), setN none (setN none l n none) n z = setN none l n z := by
      intro l n
      induction n generalizing l with
      | zero => cases l <;> rfl
      | succ n ih => cases l <;> simp [setN, ih]
    exact this _ _
  rw [hrows] at gg
  refine ⟨.skip, _, undef, c, ?_, .inr ⟨rfl, rfl⟩, .refl c, fun _ _ => rfl, fun _ _ => rfl, ⟨[], rfl, trivial⟩, gg⟩
  simp [execOp, ho, Instr.storeAt, hxv, Instr.sureAddr, storeVar, run_sizeB hsz, hcells, hel, hst]

theorem ptrCaps : ∀ {l : List SV} {bs : List Nat} {vs : List Value}, l.mapM (fun | .c (.a (.ptr p 0)) => some p | _ => none) = some bs → l.length = vs.length → (∀ i (h1 : i < l.length) (h2 : i < vs.length), (l[i]).rel c (vs[i])) →
    ∃ ns : List Nat, bs.map c.β = ns.map some ∧ vs = ns.map fun n => Value.pointer (some ⟨n, 0, none⟩)
  | [], bs, [], h, _, _ => by simp at h; subst h; exact ⟨[], rfl, rfl⟩
  | [], _, _ :: _, _, hl, _ => by simp at hl
  | _ :: _, _, [], _, hl, _ => by simp at hl
  | x :: l, bs, v :: vs, h, hl, hr => by
    simp only [List.mapM_cons, Option.bind_eq_bind, Option.pure_def, Option.bind_eq_some_iff] at h
    obtain ⟨p, h1, bs', h2, h3⟩ := h
    cases h3
    obtain ⟨ns, e1, e2⟩ := ptrCaps h2 (by simpa using hl) (fun i q1 q2 => by
      have := hr (i + 1) (by simp; omega) (by simp; omega)
      simpa using this)
    have h0 := hr 0 (by simp) (by simp)
    simp only [List.getElem_cons_zero] at h0
    split at h1
    · cases h1
      obtain ⟨n, hb, rfl⟩ := h0
      exact ⟨n :: ns, by simp [hb, e1], by simp [e2]⟩
    · cases h1

theorem base_ok (hpl : PlainTy P pl) (g : Good B w0 σ c a w) (hrd : RdOk σ c a rd) {r : OpR} (hfb : ∀ i ∈ r.nb, c.β i = none) (hfr : ∀ i ∈ r.nr, c.R i = none) (h : symBase P pl o rd = some r)
    (hn : ∀ e ∈ r.needs, (e.ev c.ρ).bool = true) : Does P B w0 σ c a w o r := by
  have h' := h
  unfold symBase at h
  split at h
  case h_1 x ho => cases h; exact Does.quiet g (by simp [execOp, ho]) (hrd.ev x)
  case h_2 x ho => cases h; exact Does.quiet g (by simp [execOp, ho]) (hrd.ev x)
  case h_3 cx x y ho =>
    have hc := hrd.ev cx
    split at h
    · rename_i h1; rw [h1] at hc; cases h
      have hc : a.eval cx = .bool true := hc
      exact Does.quiet g (by simp [execOp, ho, hc, asBool]) (hrd.ev x)
    · rename_i h1; rw [h1] at hc; cases h
      have hc : a.eval cx = .bool false := hc
      exact Does.quiet g (by simp [execOp, ho, hc, asBool]) (hrd.ev y)
    · rename_i e _ _ h1
      rw [h1] at hc
      have hc : a.eval cx = .bool (e.ev c.ρ).bool := hc
      have hx := hrd.ev x
      have hy := hrd.ev y
      split at h
      · rename_i p q h2 h3
        cases h
        rw [h2] at hx; rw [h3] at hy
        have hx : a.eval x = .bool (p.ev c.ρ).bool := hx
        have hy : a.eval y = .bool (q.ev c.ρ).bool := hy
        exact Does.quiet g (v := if (e.ev c.ρ).bool = true then .bool (p.ev c.ρ).bool else .bool (q.ev c.ρ).bool) (by cases hb : (e.ev c.ρ).bool <;> simp [execOp, ho, hc, hb, asBool, hx, hy]) (by
          show _ = _
          rw [mk3_ev]; cases hb : (e.ev c.ρ).bool <;> simp [U3.ev, hb])
      · rename_i k p k' q h2 h3
        split at h
        · rename_i hk
          cases h; subst hk
          rw [h2] at hx; rw [h3] at hy
          have hx : a.eval x = .int k (p.ev c.ρ).int := hx
          have hy : a.eval y = .int k (q.ev c.ρ).int := hy
          exact Does.quiet g (v := if (e.ev c.ρ).bool = true then .int k (p.ev c.ρ).int else .int k (q.ev c.ρ).int) (by cases hb : (e.ev c.ρ).bool <;> simp [execOp, ho, hc, hb, asBool, hx, hy]) (by
            show _ = _
            rw [mk3_ev]; cases hb : (e.ev c.ρ).bool <;> simp [U3.ev, hb])
        · cases h
      · cases h
    · cases h
  case h_4 ty ho =>
    split at h
    · rename_i v hz
      split at h
      · rename_i cs hcs
        split at h
        · rename_i hk
          cases h
          obtain ⟨z, hz1, hz2⟩ := Option.bind_eq_some_iff.1 hz
          obtain ⟨vs, hv, hr⟩ := sv_cells hcs hk (svOf_rel (c := c) hz2)
          exact box_ok g (hfb _ (by simp)) hr (by simp [execOp, ho, Instr.alloc, zero_run hz1, newVar, newRow, hv])
        · cases h
      · cases h
    · cases h
  case h_5 ty x ho =>
    split at h
    · rename_i cs hcs
      split at h
      · rename_i hk
        cases h
        obtain ⟨vs, hv, hr⟩ := sv_cells hcs hk (hrd.ev x)
        exact box_ok g (hfb _ (by simp)) hr (by simp [execOp, ho, Instr.box, newVar, newRow, hv])
      · cases h
    · cases h
  case h_6 ty x ho =>
    have hx := hrd.ev x
    split at h
    · rename_i p off h1
      rw [h1] at hx
      split at h
      · rename_i k hk
        simp only [Option.map_eq_some_iff] at h
        obtain ⟨sv, hs, rfl⟩ := h
        exact load_blk g ho hx (hrd.blk _ _ hk) hs
      · cases h
    · rename_i rr es ix off h1
      rw [h1] at hx
      split at h
      · rename_i k hk
        split at h
        · rename_i hc
          obtain ⟨rfl, hok⟩ := hc
          simp only [Option.map_eq_some_iff] at h
          obtain ⟨sv, hs, rfl⟩ := h
          exact load_row g ho hx (hrd.row _ _ hk) hok hs
        · cases h
      · cases h
    · cases h
  case h_7 ty x y ho =>
    have hx := hrd.ev x
    have hy := hrd.ev y
    split at h
    · rename_i p off xs hd h1 h2
      rw [h1] at hx
      split at h
      · rename_i k n hk hsz
        split at h
        · rename_i hc
          obtain ⟨rfl, hkn⟩ := hc
          simp only [Option.map_eq_some_iff] at h
          obtain ⟨cs, hcs, rfl⟩ := h
          exact store_ok g ho hx (hrd.blk _ _ hk) h2 hkn hy hsz hcs
        · cases h
      · cases h
    · rename_i rr es ix xs hd h1 h2
      rw [h1] at hx
      split at h
      · rename_i k n hk hsz
        split at h
        · rename_i hc
          simp only [Bool.and_eq_true] at hc
          obtain ⟨⟨⟨hown, hnk⟩, hes⟩, hok⟩ := hc
          have hnk := Nat.eq_of_beq_eq_true hnk
          have hes := Nat.eq_of_beq_eq_true hes
          subst hnk
          subst hes
          split at h
          · rename_i e he
            cases h
            exact rowStore_ok g ho hx (hrd.row _ _ hk) hown hok hsz he hy
          · cases h
        · cases h
      · cases h
    · cases h
  case h_8 x ho =>
    have hx := hrd.ev x
    split at h
    · rename_i p off h1
      cases h
      rw [h1] at hx
      have hx' := hx
      obtain ⟨n, _, hv⟩ := hx'
      exact Does.quiet g (by simp [execOp, ho, hv]) (hv ▸ hx)
    · rename_i f cs h1
      cases h
      rw [h1] at hx
      have hx' := hx
      obtain ⟨n, _, hv⟩ := hx'
      exact Does.quiet g (by simp [execOp, ho, hv]) (hv ▸ hx)
    · cases h
  case h_9 op ty x y yt ho =>
    obtain ⟨hr, v, hv, hrel⟩ := symBin_run (w := w) hpl h (hrd.ev x) (hrd.ev y) hn x y
    rw [hr]
    exact Does.quiet g (v := v) (by
      have : (execOp a.eval o).run P w = ((do eqGuard op ty x y (a.eval x) (a.eval y); binOp op ty (a.eval x) (a.eval y) : Sem Value).run P w).andThen fun u w' => .ok (.value u) w' := by
        simp only [execOp, ho, Sem.run_bind]
        cases Sem.run P (eqGuard op ty x y (a.eval x) (a.eval y)) w <;> simp [Result.andThen]
      rw [this, hv]; rfl) hrel
  case h_10 op ty x ho =>
    have hx := hrd.ev x
    split at h
    · rename_i k e h1
      cases h; rw [h1] at hx
      have hx : a.eval x = .int k (e.ev c.ρ).int := hx
      exact Does.quiet g (by simp [execOp, ho, hx, Op.unary, Op.intArith]; rfl) (by show _ = _; rw [mk2_ev]; simp [U2.ev, Ex.ev])
    · rename_i k e h1
      cases h; rw [h1] at hx
      have hx : a.eval x = .int k (e.ev c.ρ).int := hx
      exact Does.quiet g (by simp only [execOp, ho, hx, Op.unary, Op.intBits]; rfl) (by show _ = _; rw [mk2_ev]; rfl)
    · rename_i e h1
      cases h; rw [h1] at hx
      have hx : a.eval x = .bool (e.ev c.ρ).bool := hx
      exact Does.quiet g (by simp [execOp, ho, hx, Op.unary]; rfl) (by show _ = _; rw [mk1_ev]; rfl)
    · cases h
  case h_11 src dst x ho =>
    have hx := hrd.ev x
    split at h
    · rename_i d k k' e h1 h2 h3
      cases h; rw [h3] at hx
      have hx : a.eval x = .int k' (e.ev c.ρ).int := hx
      exact Does.quiet g (by simp [execOp, ho, hx, convert, run_underlying h1, run_underlying h2, Conv.intToInt]; rfl) (by show _ = _; rw [mk1_ev]; rfl)
    · rename_i d e h1 h2 h3
      cases h; rw [h3] at hx
      have hx : a.eval x = .string (e.ev c.ρ).str := hx
      exact Does.quiet g (by simp [execOp, ho, hx, convert, run_underlying h1, run_underlying h2]) rfl
    · cases h
  case h_12 ty x f ho =>
    have hx := hrd.ev x
    split at h
    · rename_i fd p off h1 h2
      split at h
      · rename_i m hsz
        cases h; rw [h2] at hx
        obtain ⟨fs, hu, hf⟩ := fieldB_spec h1
        obtain ⟨n, hb, hv⟩ := hx
        exact Does.quiet g (v := .pointer (some ((⟨n, off, none⟩ : Addr).add fd.offset))) (by simp [execOp, ho, Instr.fieldAt, run_underlying hu, hf, hv, Instr.sureAddr, fieldPlace, run_sizeB hsz]) ⟨n, hb, by rw [add_lit]⟩
      · cases h
    · rename_i fd rr es ix off h1 h2
      split at h
      · rename_i m hsz
        cases h; rw [h2] at hx
        obtain ⟨fs, hu, hf⟩ := fieldB_spec h1
        obtain ⟨n, q, len, cap, e1, e2, e3, hv⟩ := hx
        exact Does.quiet g (v := .pointer (some ((⟨n, q + (ix.ev c.ρ).int.toNat * es + off, none⟩ : Addr).add fd.offset))) (by simp [execOp, ho, Instr.fieldAt, run_underlying hu, hf, hv, Instr.sureAddr, fieldPlace, run_sizeB hsz]) ⟨n, q, len, cap, e1, e2, e3, by rw [add_lit, Nat.add_assoc]⟩
      · cases h
    · cases h
  case h_13 ty x f ho =>
    have hx := hrd.ev x
    split at h
    · rename_i fd cs h1 h2
      simp only [Option.map_eq_some_iff] at h
      obtain ⟨sv, hs, rfl⟩ := h
      rw [h2] at hx
      obtain ⟨vs, hv, hr⟩ := hx
      obtain ⟨fs, hu, hf⟩ := fieldB_spec h1
      obtain ⟨v, hrun, hrel⟩ := part_run hs hr w
      exact Does.quiet g (v := v) (by simp [execOp, ho, Instr.field, run_underlying hu, hf, hv, asAgg, hrun]) hrel
    · cases h
  case h_14 ty x i ho => exact index_ok g hrd ho h' hn
  case h_15 ty x i ho =>
    have hx := hrd.ev x
    have hi := hrd.ev i
    split at h
    · rename_i len el k z cs h1 h2 h3
      rw [h2] at hi; rw [h3] at hx
      have hi : a.eval i = .int k z := hi
      obtain ⟨vs, hv, hr⟩ := hx
      split at h
      · rename_i n hsz
        split at h
        · rename_i hz
          simp only [Option.map_eq_some_iff] at h
          obtain ⟨sv, hs, rfl⟩ := h
          obtain ⟨v, hrun, hrel⟩ := part_run hs hr w
          exact Does.quiet g (v := v) (by simp [execOp, ho, Instr.index, asIntOf, hi, run_underlying h1, hv, hz, run_sizeB hsz, hrun]) hrel
        · cases h
      · cases h
    · rename_i k e s h1 h2 h3
      cases h
      rw [h2] at hi; rw [h3] at hx
      have hi : a.eval i = .int k (e.ev c.ρ).int := hi
      have hx : a.eval x = .string (s.ev c.ρ).str := hx
      have n1 := hn (mk2 .le (.i 0) e) (by simp)
      have n2 := hn (mk2 .lt e (mk1 .slen s)) (by simp)
      rw [mk2_ev] at n1 n2
      rw [mk1_ev] at n2
      have n1 : (0 : Int) ≤ (e.ev c.ρ).int := of_decide_eq_true n1
      have n2 : (e.ev c.ρ).int < ((s.ev c.ρ).str.size : Int) := of_decide_eq_true n2
      have hlt : (e.ev c.ρ).int.toNat < (s.ev c.ρ).str.size := by omega
      have hget : (s.ev c.ρ).str[(e.ev c.ρ).int.toNat]? = some ((s.ev c.ρ).str[(e.ev c.ρ).int.toNat]'hlt) := by simp [hlt]
      exact Does.quiet g (v := .int .u8 ((s.ev c.ρ).str[(e.ev c.ρ).int.toNat]'hlt).toNat) (by simp [execOp, ho, Instr.index, asIntOf, hi, run_underlying h1, hx, n1, hget]) (by
        show _ = _
        rw [mk2_ev]
        simp only [U2.ev, Sc.int_i]
        congr 2
        have : (s.ev c.ρ).str.data.toList.length = (s.ev c.ρ).str.size := by simp
        rw [List.getD_eq_getElem?_getD, List.getElem?_eq_getElem (by omega)]
        simp
        rfl)
    · cases h
  case h_16 x i ho =>
    have hx := hrd.ev x
    split at h
    · rename_i xs h1
      simp only [Option.map_eq_some_iff] at h
      obtain ⟨s, hs, rfl⟩ := h
      rw [h1] at hx
      obtain ⟨vs, hv, hr⟩ := hx
      obtain ⟨v, hg, hrel⟩ := relC_get hr hs
      exact Does.quiet g (v := v) (by simp [execOp, ho, Instr.extract, hv, hg]) hrel
    · cases h
  case h_17 ty parts ho => exact build_ok g hrd ho h'
  case h_18 ty len parts ho => exact buildSlice_ok g hrd ho hfr h'
  case h_19 ty x lo hi mx ho => exact slice_ok g hrd ho h' hn
  case h_20 f first caps ho =>
    split at h
    · rename_i bs hf hb
      cases h
      obtain ⟨ns, e1, e2⟩ := ptrCaps (c := c) (vs := caps.toList.map a.eval) hb (by simp) (fun i q1 q2 => by simpa using hrd.ev _)
      have hfirst : first = #[] := by rw [← Array.toArray_toList (xs := first), hf]
      have hcaps : caps.map a.eval = (ns.map fun n => Value.pointer (some ⟨n, 0, none⟩)).toArray := by
        rw [← e2]
        apply Array.ext'
        simp
      exact Does.quiet g (v := .func (.func f) #[] (ns.map fun n => Value.pointer (some ⟨n, 0, none⟩)).toArray) (by simp [execOp, ho, Instr.makeFunc, hfirst, hcaps]) ⟨ns, e1, rfl⟩
    · cases h
  case h_21 => cases h
theorem op_ok (hpl : PlainTy P pl) {cons : List Con} (g : Good B w0 σ c a w) (hrd : RdOk σ c a rd) {r : OpR} (hfb : ∀ i ∈ r.nb, c.β i = none) (hfr : ∀ i ∈ r.nr, c.R i = none) (h : symOp P pl cons o rd = some r) (hcall : r.call = none)
    (hn : ∀ e ∈ r.needs, (e.ev c.ρ).bool = true) : Does P B w0 σ c a w o r := by
  unfold symOp at h
  split at h
  · rename_i cl ho
    exact builtin_ok g hrd ho hfr h hcall hn
  · split at h
    · rename_i r' hr
      split at h
      · cases h; exact base_ok hpl g hrd hfb hfr hr hn
      · cases h
    · cases h
end
end Go.Proofs.Ytfaghnapfkpdhaa
