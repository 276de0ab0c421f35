/-
  What an operation does: the sum of it.
  Contracts, and calls by them.
  Calls by contracts.
  Calls by contracts: the whole call.
  What a tree says; sequences of operations.
-/
import Derived.Test.YtkjgcalkkfgmlaaDoorSymI
namespace Go.Proofs.YtkjgcalkkfgmlaaDoor
open Go.RowKit

section
variable {P : Program} {B : Nat} {w0 : World} {σ : St} {c : Ct} {a : Act} {w : World} {o : Oper} {rd : Rd} {pl : List TypeId}

theorem add_lit (p o n : Nat) : (⟨p, o, none⟩ : Addr).add n = ⟨p, o + n, none⟩ := by unfold Addr.add; split <;> simp_all
theorem lo_fits {lo e : Ex} {n m : Nat} (hm : m ≤ maxLen) (h0 : 0 ≤ (lo.ev c.ρ).int) (h1 : 0 ≤ (e.ev c.ρ).int) (h2 : (e.ev c.ρ).int ≤ n) (h3 : (lo.ev c.ρ).int + n ≤ m) : ((mk2 (.add .i64) lo e).ev c.ρ).int = (lo.ev c.ρ).int + (e.ev c.ρ).int := by
  rw [mk2_ev]
  exact wrap_in (by omega) (by simp only [maxLen] at hm; omega)

theorem index_ok (g : Good B w0 σ c a w) (hrd : RdOk σ c a rd) {ty : TypeId} {x i : Operand} (ho : o.op = .indexAddr ty x i) {r : OpR} (h : symBase P pl o rd = some r) (hn : ∀ e ∈ r.needs, (e.ev c.ρ).bool = true) : Does P B w0 σ c a w o r := by
  unfold symBase at h
  simp only [ho] at h
  have hx := hrd.ev x
  have hi := hrd.ev i
  split at h
  · rename_i el k e hu h2
    rw [h2] at hi
    have hi : a.eval i = .int k (e.ev c.ρ).int := hi
    split at h
    · rename_i rr kk lo len n hs hsz
      split at h
      · rename_i hnk
        cases h
        have n1 := hn (mk2 .le (.i 0) e) (by simp)
        have n2 := hn (mk2 .lt e len) (by simp)
        rw [mk2_ev] at n1 n2
        have n1 : (0 : Int) ≤ (e.ev c.ρ).int := of_decide_eq_true n1
        have n2 : (e.ev c.ρ).int < (len.ev c.ρ).int := of_decide_eq_true n2
        obtain ⟨ad, m, cap, hv, hl, hlo, hmc, hcm, hcl, hmat⟩ := sliceOf_spec g hrd.row hs hx
        simp only at hmat
        obtain ⟨_, hk, hok, hpos, hform, hle, hL, hvec, hpl, hcell⟩ := hmat
        obtain ⟨p, q, m', cap', e1, e2, e3⟩ := hpl (by omega)
        obtain ⟨ad4, n4, cap4, f1, f2, f3, f4, _⟩ := g.read hk
        rw [e1] at f1; cases f1
        refine Does.quiet g (v := .pointer (some ((⟨p, q + (lo.ev c.ρ).int.toNat * kk.ks.length, none⟩ : Addr).add ((e.ev c.ρ).int.toNat * n)))) ?_ ?_
        · simp [execOp, ho, Instr.indexAt, asIntOf, hi, run_underlying hu, hv, e3, n1, (by omega : (e.ev c.ρ).int < (m : Int)), run_sizeB hsz]
        · rw [add_lit]
          rcases hform with hf | ⟨es, lo', len', hf⟩
          · obtain ⟨hlo0, _⟩ := hvec hf
            subst hlo0
            rw [hf]
            refine ⟨p, q, m', cap', e1, n1, by show (e.ev c.ρ).int < m'; simp [Ex.ev] at hle; omega, ?_⟩
            show _ = Value.pointer (some ⟨p, q + (e.ev c.ρ).int.toNat * n + 0, none⟩)
            simp [Ex.ev, hnk]
          · rw [hf]
            have hfit := lo_fits (c := c) (lo := lo) (e := e) (n := m) (m := m') (by omega) hlo n1 (by omega) (by omega)
            refine ⟨p, q, m', cap', e1, ?_, ?_, ?_⟩
            · show 0 ≤ ((mk2 (.add .i64) lo e).ev c.ρ).int
              rw [hfit]; omega
            · show ((mk2 (.add .i64) lo e).ev c.ρ).int < m'
              rw [hfit]; omega
            · show _ = Value.pointer (some ⟨p, q + ((mk2 (.add .i64) lo e).ev c.ρ).int.toNat * n + 0, none⟩)
              rw [hfit, Int.toNat_add hlo n1, Nat.add_mul, hnk, Nat.add_assoc]
              rfl
      · cases h
    · cases h
      have := hn (.b false) (by simp)
      cases this
    · cases h
  · rename_i len el k z hu h2
    rw [h2] at hi
    have hi : a.eval i = .int k z := hi
    split at h
    · rename_i p off n h1 hsz
      split at h
      · rename_i hz
        cases h
        rw [h1] at hx
        obtain ⟨m, hb, hv⟩ := hx
        refine Does.quiet g (v := .pointer (some ((⟨m, off, none⟩ : Addr).add (z.toNat * n)))) ?_ ⟨m, hb, by rw [add_lit]⟩
        simp [execOp, ho, Instr.indexAt, asIntOf, hi, run_underlying hu, hv, Instr.sureAddr, hz, run_sizeB hsz]
      · cases h
    · cases h
  · cases h

theorem slice_ok (g : Good B w0 σ c a w) (hrd : RdOk σ c a rd) {ty : TypeId} {x : Operand} {lo hi mx : Option Operand} (ho : o.op = .slice ty x lo hi mx) {r : OpR} (h : symBase P pl o rd = some r) (hn : ∀ e ∈ r.needs, (e.ev c.ρ).bool = true) : Does P B w0 σ c a w o r := by
  unfold symBase at h
  simp only [ho] at h
  have hx := hrd.ev x
  have hlow : ∀ (l : Ex), lowOf rd lo = some l → (lo = none ∧ (l.ev c.ρ).int = 0) ∨ ∃ y k, lo = some y ∧ a.eval y = .int k (l.ev c.ρ).int := by
    intro l hl
    unfold lowOf at hl
    cases lo with
    | none => simp at hl; subst hl; exact .inl ⟨rfl, rfl⟩
    | some y =>
      simp only [Option.map_eq_some_iff] at hl
      obtain ⟨⟨k, e⟩, h1, rfl⟩ := hl
      have hy := hrd.ev y
      refine .inr ⟨y, k, rfl, ?_⟩
      unfold SV.int? at h1
      split at h1
      · rename_i h2; cases h1; rw [h2] at hy; exact hy
      · cases h1
  have hhigh : ∀ (d l : Ex), highOf rd hi d = some l → (hi = none ∧ l = d) ∨ ∃ y k, hi = some y ∧ a.eval y = .int k (l.ev c.ρ).int := by
    intro d l hl
    unfold highOf at hl
    cases hi with
    | none => simp at hl; exact .inl ⟨rfl, hl.symm⟩
    | some y =>
      simp only [Option.map_eq_some_iff] at hl
      obtain ⟨⟨k, e⟩, h1, rfl⟩ := hl
      have hy := hrd.ev y
      refine .inr ⟨y, k, rfl, ?_⟩
      unfold SV.int? at h1
      split at h1
      · rename_i h2; cases h1; rw [h2] at hy; exact hy
      · cases h1
  cases mx with
  | some m => simp at h
  | none =>
  simp only at h
  split at h
  · -- a string
    rename_i hu
    split at h
    rotate_left
    · cases h
    rename_i s hs
    rw [hs] at hx
    have hx : a.eval x = .string (s.ev c.ρ).str := hx
    split at h
    · rename_i l hh h1 h2
      cases h
      have n1 := hn (mk2 .le (.i 0) l) (by simp)
      have n2 := hn (mk2 .le l hh) (by simp)
      have n3 := hn (mk2 .le hh (mk1 .slen s)) (by simp)
      rw [mk2_ev] at n1 n2 n3
      rw [mk1_ev] at n3
      have n1 : (0 : Int) ≤ (l.ev c.ρ).int := of_decide_eq_true n1
      have n2 : (l.ev c.ρ).int ≤ (hh.ev c.ρ).int := of_decide_eq_true n2
      have n3 : (hh.ev c.ρ).int ≤ ((s.ev c.ρ).str.size : Int) := of_decide_eq_true n3
      refine Does.quiet g (v := .string ((s.ev c.ρ).str.extract (l.ev c.ρ).int.toNat (hh.ev c.ρ).int.toNat)) ?_ (by show _ = _; rw [mk3_ev]; rfl)
      have q1 : (0 : Int) ≤ (hh.ev c.ρ).int := by omega
      have q2 : ((hh.ev c.ρ).int.toNat : Int) = (hh.ev c.ρ).int := by omega
      rcases hlow l h1 with ⟨rfl, e1⟩ | ⟨y, k, rfl, e1⟩ <;> rcases hhigh _ hh h2 with ⟨rfl, e2⟩ | ⟨y', k', rfl, e2⟩
      · subst e2
        simp [execOp, ho, Instr.sliceAt, run_underlying hu, Instr.slice, Instr.sliceBounds, hx, e1, mk1_ev, U1.ev]
      · simp [execOp, ho, Instr.sliceAt, run_underlying hu, Instr.slice, Instr.sliceBounds, Instr.sliceBound, asIntOf, hx, e1, e2, q1, n3]
      · subst e2
        have n4 : (l.ev c.ρ).int ≤ ((s.ev c.ρ).str.size : Int) := by omega
        simp [execOp, ho, Instr.sliceAt, run_underlying hu, Instr.slice, Instr.sliceBounds, Instr.sliceBound, asIntOf, hx, e1, n1, n4, mk1_ev, U1.ev]
      · simp [execOp, ho, Instr.sliceAt, run_underlying hu, Instr.slice, Instr.sliceBounds, Instr.sliceBound, asIntOf, hx, e1, e2, n1, q1, n3, q2, n2]
    · cases h
  · -- a row
    rename_i el hu
    split at h
    · rename_i rr kk b n hs
      split at h
      · rename_i l hh k h1 h2 hsz
        split at h
        · rename_i hkk
          cases h
          have n1 := hn (mk2 .le (.i 0) l) (by simp)
          have n2 := hn (mk2 .le l hh) (by simp)
          have n3 := hn (mk2 .le hh n) (by simp)
          rw [mk2_ev] at n1 n2 n3
          have n1 : (0 : Int) ≤ (l.ev c.ρ).int := of_decide_eq_true n1
          have n2 : (l.ev c.ρ).int ≤ (hh.ev c.ρ).int := of_decide_eq_true n2
          have n3 : (hh.ev c.ρ).int ≤ (n.ev c.ρ).int := of_decide_eq_true n3
          obtain ⟨ad, m, cap, hv, hl, hlo, hmc, hcm, hcl, hmat⟩ := sliceOf_spec g hrd.row hs hx
          simp only at hmat
          obtain ⟨_, hk, hok, hpos, hform, hle, hL, hvec, hpl, hcell⟩ := hmat
          obtain ⟨ad4, n4, cap4, f1, f2, f3, f4, _⟩ := g.read hk
          have q1 : (0 : Int) ≤ (hh.ev c.ρ).int := by omega
          have q3 : (hh.ev c.ρ).int ≤ (cap : Int) := by omega
          have hh2 : ((hh.ev c.ρ).int.toNat : Int) = (hh.ev c.ρ).int := by omega
          have hrun : (execOp a.eval o).run P w = .ok (.value (sliced ad (l.ev c.ρ).int.toNat (hh.ev c.ρ).int.toNat cap k)) w := by
            rcases hlow l h1 with ⟨rfl, e1⟩ | ⟨y, k', rfl, e1⟩ <;> rcases hhigh _ hh h2 with ⟨rfl, e2⟩ | ⟨y', k'', rfl, e2⟩
            · subst e2
              simp [execOp, ho, Instr.sliceAt, run_underlying hu, Instr.slice, Instr.sliceBounds, hv, e1, run_sizeB hsz, sliced, hl]
            · simp [execOp, ho, Instr.sliceAt, run_underlying hu, Instr.slice, Instr.sliceBounds, Instr.sliceBound, asIntOf, hv, e1, e2, q1, q3, run_sizeB hsz, sliced]
            · subst e2
              have n4' : (l.ev c.ρ).int ≤ (m : Int) := by omega
              simp [execOp, ho, Instr.sliceAt, run_underlying hu, Instr.slice, Instr.sliceBounds, Instr.sliceBound, asIntOf, hv, e1, n1, n4', run_sizeB hsz, sliced, hl]
            · simp [execOp, ho, Instr.sliceAt, run_underlying hu, Instr.slice, Instr.sliceBounds, Instr.sliceBound, asIntOf, hv, e1, e2, n1, q1, q3, hh2, n2, run_sizeB hsz, sliced]
          have hsub : ((mk2 (.sub .i64) hh l).ev c.ρ).int = (hh.ev c.ρ).int - (l.ev c.ρ).int := by
            rw [mk2_ev]; exact wrap_in (by omega) (by simp only [maxLen] at hcm; omega)
          have key : ∀ (ix : Ex), (ix.ev c.ρ).int = (b.ev c.ρ).int + (l.ev c.ρ).int → (At.sl rr k ix (mk2 (.sub .i64) hh l)).rel c (sliced ad (l.ev c.ρ).int.toNat (hh.ev c.ρ).int.toNat cap k) := by
            intro ix hix
            refine ⟨ad4, n4, cap4, (if cap = (l.ev c.ρ).int.toNat then ad else ad.map (·.add ((l.ev c.ρ).int.toNat * k))), cap - (l.ev c.ρ).int.toNat, f1, ?_, by rw [hix]; omega, by rw [hsub]; omega, by rw [hix, hsub]; omega, by rw [hsub]; omega, by omega, fun hp => ?_⟩
            · rw [hsub]
              show Value.slice _ _ _ = _
              congr 1
              omega
            · rw [hsub] at hp
              obtain ⟨p, q, m', cap', e1, e2, e3⟩ := hpl (by omega)
              rw [f1] at e1; cases e1
              refine ⟨p, q, rfl, ?_⟩
              have hne : ¬ (cap = (l.ev c.ρ).int.toNat) := by omega
              rw [if_neg hne, e3]
              simp only [Option.map_some, add_lit]
              rw [hix, Int.toNat_add hlo n1, Nat.add_mul, hkk, Nat.add_assoc]
          refine Does.quiet g hrun ?_
          rcases hform with hf | ⟨es, lo', len', hf⟩
          · obtain ⟨hb0, _⟩ := hvec hf
            subst hb0
            rw [hf]
            exact key l (by simp [Ex.ev])
          · rw [hf]
            exact key (mk2 (.add .i64) b l) (lo_fits (c := c) (lo := b) (e := l) (n := m) (m := n4) (by omega) hlo n1 (by omega) (by omega))
        · cases h
      · cases h
    · cases h
  · cases h

theorem flat_set {agg : Bool} {ks : List CK} (h : okForm agg ks) : ∀ (l : List Sc) (i : Nat) (x : Sc), i < l.length →
    rowFlat agg ks (l.set i x) = (rowFlat agg ks l).take (i * ks.length) ++ elCells agg ks x ++ (rowFlat agg ks l).drop (i * ks.length + ks.length)
  | [], i, _, hi => by simp at hi
  | y :: l, 0, x, _ => by
    simp only [List.set_cons_zero, rowFlat, List.flatMap_cons, Nat.zero_mul, List.take_zero, List.nil_append, Nat.zero_add]
    rw [List.drop_append_of_le_length (by rw [elCells_length h]; exact Nat.le_refl _), List.drop_of_length_le (by rw [elCells_length h]; exact Nat.le_refl _)]
    simp
  | y :: l, i + 1, x, hi => by
    have ih := flat_set h l i x (by simpa using hi)
    have hy := elCells_length h y
    have e1 : (i + 1) * ks.length = (elCells agg ks y).length + i * ks.length := by rw [hy, Nat.add_mul]; omega
    have e2 : (i + 1) * ks.length + ks.length = (elCells agg ks y).length + (i * ks.length + ks.length) := by rw [hy, Nat.add_mul]; omega
    simp only [List.set_cons_succ, rowFlat, List.flatMap_cons] at ih ⊢
    rw [ih, e2, e1, List.take_length_add_append, List.drop_length_add_append]
    simp

theorem take_splice {α : Type} (cur E : List α) (A s : Nat) {M : Nat} (hE : E.length = s) (h1 : A + s ≤ M) (h2 : M ≤ cur.length) :
    (cur.take A ++ E ++ cur.drop (A + s)).take M = (cur.take M).take A ++ E ++ (cur.take M).drop (A + s) := by
  have e1 : (cur.take M).take A = cur.take A := by rw [List.take_take, Nat.min_eq_left (by omega)]
  have hl : (cur.take A ++ E).length = A + s := by simp [hE, Nat.min_eq_left (by omega : A ≤ cur.length)]
  rw [e1, List.take_append, hl, List.take_of_length_le (by omega), List.drop_take]

theorem rowStore_ok (g : Good B w0 σ c a w) {ty : TypeId} {x y : Operand} (ho : o.op = .store ty x y) {rr : Nat} {ix : Ex} {k : Rw} (hx : (At.pel rr k.ks.length ix 0).rel c (a.eval x)) (hk : σ.row rr = some k) (hown : k.own = true) (hokb : okFormB k.agg k.ks = true)
    (hsz : sizeB P ty = some k.ks.length) {sv : SV} {e : Ex} (he : sv.sc.bind (elemOf k.agg k.ks) = some e) (hy : sv.rel c (a.eval y)) :
    Does P B w0 σ c a w o ⟨[], none, .t [], [], [(rr, some { k with cont := mk3 .upd k.cont ix e })], [], []⟩ := by
  obtain ⟨hok, hpos⟩ := okForm_of hokb
  obtain ⟨p, q, m, cap, hR, h0, hlt, hxv⟩ := hx
  obtain ⟨v, hR', ad, n, cap', rfl, h1, h2, h3, h4, _⟩ := g.rows rr k hk
  rw [hR] at hR'; cases hR'
  have hw := h4 hown
  obtain ⟨sc, hs1, hs2⟩ := Option.bind_eq_some_iff.1 he
  have hcells := elemOf_val hs2 (sc_of_rel hs1 hy)
  rcases hw.2 with ⟨hv, _⟩ | ⟨p', cap2, cur, hv, hb, hheap, hnc, hcm, hcs, htake⟩
  · cases hv
  cases hv
  have hel := elCells_length hok (e.ev c.ρ)
  have hfit : (ix.ev c.ρ).int.toNat * k.ks.length + (elCells k.agg k.ks (e.ev c.ρ)).length ≤ cur.size := by
    rw [hel, hcs, ← Nat.succ_mul]
    exact Nat.mul_le_mul_right _ (by omega)
  have hone : ∀ u ∈ elCells k.agg k.ks (e.ev c.ρ), u.oneCell' = true := fun u hu => flat_one k.agg k.ks [e.ev c.ρ] u (by simp [rowFlat, hu])
  have hst := run_storeCells_at P p ((ix.ev c.ρ).int.toNat * k.ks.length) k.el (elCells k.agg k.ks (e.ev c.ρ)) 0 cur w hheap (by simpa using hfit) hone
  simp only [Nat.add_zero] at hst
  have hrow : rowFlat k.agg k.ks ((mk3 .upd k.cont ix e).ev c.ρ).list = (rowFlat k.agg k.ks (k.cont.ev c.ρ).list).take ((ix.ev c.ρ).int.toNat * k.ks.length) ++ elCells k.agg k.ks (e.ev c.ρ) ++ (rowFlat k.agg k.ks (k.cont.ev c.ρ).list).drop ((ix.ev c.ρ).int.toNat * k.ks.length + k.ks.length) := by
    rw [mk3_ev]; exact flat_set hok (k.cont.ev c.ρ).list (ix.ev c.ρ).int.toNat (e.ev c.ρ) (by omega)
  have hlist : ((mk3 .upd k.cont ix e).ev c.ρ).list.length = m := by rw [mk3_ev]; simp [U3.ev, h1]
  have hfl := flat_length hok (k.cont.ev c.ρ).list
  rw [h1] at hfl
  have hcurl : cur.toList.length = cap * k.ks.length := by simpa using hcs
  have hmul : m * k.ks.length ≤ cap * k.ks.length := Nat.mul_le_mul_right _ h2
  have hi1 : (ix.ev c.ρ).int.toNat * k.ks.length + k.ks.length ≤ m * k.ks.length := by rw [← Nat.succ_mul]; exact Nat.mul_le_mul_right _ (by omega)
  have gg := g.turnRow hk hown hR (w' := w.setRow p (cur.toList.take ((ix.ev c.ρ).int.toNat * k.ks.length) ++ elCells k.agg k.ks (e.ev c.ρ) ++ cur.toList.drop ((ix.ev c.ρ).int.toNat * k.ks.length + (elCells k.agg k.ks (e.ev c.ρ)).length)).toArray)
    ⟨rfl, rfl, rfl, by simp [World.setRow], fun j _ hj => setRow_other w p j _ (fun e' => hj (by simp [Value.ownBlock, e']))⟩ (r' := rr) (k' := { k with cont := mk3 .upd k.cont ix e }) hown (ad := some ⟨p, 0, none⟩) (n := m) (cap := cap) hlist h2 h3
    ⟨by rw [flat_length hok, hlist], .inr ⟨p, cap, _, rfl, hb, setRow_heap w p cur _ k.el _ hheap, hnc, hcm, by
      simp only [List.size_toArray, List.length_append, List.length_take, List.length_drop, hel, hcurl]; omega, by
      rw [hrow, ← htake]
      simp only [hel]
      exact take_splice _ _ _ _ hel (by omega) (by omega)⟩⟩ (.inl rfl) (.inr ⟨rfl, rfl⟩)
  have hc : (fun i => if i = rr then some (Value.slice (some ⟨p, 0, none⟩) m cap) else c.R i) = c.R := by
    funext i
    by_cases h : i = rr
    · subst h; simp [hR]
    · simp [h]
  rw [hc] at gg
  have hrows : ∀ (z : Option Rw), setN none (setN none σ.rows rr none) rr z = setN none σ.rows rr z := by
    intro z
    have : ∀ (l : List (Option Rw)) (n : Nat), setN none (setN none l n none) n z = setN none l n z := by
      intro l n
      induction n generalizing l with
      | zero => cases l <;> rfl
      | succ n ih => cases l <;> simp [setN, ih]
    exact this _ _
  rw [hrows] at gg
  refine ⟨.skip, _, undef, c, ?_, .inr ⟨rfl, rfl⟩, .refl c, fun _ _ => rfl, fun _ _ => rfl, ⟨[], rfl, trivial⟩, gg⟩
  simp [execOp, ho, Instr.storeAt, hxv, Instr.sureAddr, storeVar, run_sizeB hsz, hcells, hel, hst]

theorem ptrCaps : ∀ {l : List SV} {bs : List Nat} {vs : List Value}, l.mapM (fun | .c (.a (.ptr p 0)) => some p | _ => none) = some bs → l.length = vs.length → (∀ i (h1 : i < l.length) (h2 : i < vs.length), (l[i]).rel c (vs[i])) →
    ∃ ns : List Nat, bs.map c.β = ns.map some ∧ vs = ns.map fun n => Value.pointer (some ⟨n, 0, none⟩)
  | [], bs, [], h, _, _ => by simp at h; subst h; exact ⟨[], rfl, rfl⟩
  | [], _, _ :: _, _, hl, _ => by simp at hl
  | _ :: _, _, [], _, hl, _ => by simp at hl
  | x :: l, bs, v :: vs, h, hl, hr => by
    simp only [List.mapM_cons, Option.bind_eq_bind, Option.pure_def, Option.bind_eq_some_iff] at h
    obtain ⟨p, h1, bs', h2, h3⟩ := h
    cases h3
    obtain ⟨ns, e1, e2⟩ := ptrCaps h2 (by simpa using hl) (fun i q1 q2 => by
      have := hr (i + 1) (by simp; omega) (by simp; omega)
      simpa using this)
    have h0 := hr 0 (by simp) (by simp)
    simp only [List.getElem_cons_zero] at h0
    split at h1
    · cases h1
      obtain ⟨n, hb, rfl⟩ := h0
      exact ⟨n :: ns, by simp [hb, e1], by simp [e2]⟩
    · cases h1

theorem base_ok (hpl : PlainTy P pl) (g : Good B w0 σ c a w) (hrd : RdOk σ c a rd) {r : OpR} (hfb : ∀ i ∈ r.nb, c.β i = none) (hfr : ∀ i ∈ r.nr, c.R i = none) (h : symBase P pl o rd = some r)
    (hn : ∀ e ∈ r.needs, (e.ev c.ρ).bool = true) : Does P B w0 σ c a w o r := by
  have h' := h
  unfold symBase at h
  split at h
  case h_1 x ho => cases h; exact Does.quiet g (by simp [execOp, ho]) (hrd.ev x)
  case h_2 x ho => cases h; exact Does.quiet g (by simp [execOp, ho]) (hrd.ev x)
  case h_3 cx x y ho =>
    have hc := hrd.ev cx
    split at h
    · rename_i h1; rw [h1] at hc; cases h
      have hc : a.eval cx = .bool true := hc
      exact Does.quiet g (by simp [execOp, ho, hc, asBool]) (hrd.ev x)
    · rename_i h1; rw [h1] at hc; cases h
      have hc : a.eval cx = .bool false := hc
      exact Does.quiet g (by simp [execOp, ho, hc, asBool]) (hrd.ev y)
    · rename_i e _ _ h1
      rw [h1] at hc
      have hc : a.eval cx = .bool (e.ev c.ρ).bool := hc
      have hx := hrd.ev x
      have hy := hrd.ev y
      split at h
      · rename_i p q h2 h3
        cases h
        rw [h2] at hx; rw [h3] at hy
        have hx : a.eval x = .bool (p.ev c.ρ).bool := hx
        have hy : a.eval y = .bool (q.ev c.ρ).bool := hy
        exact Does.quiet g (v := if (e.ev c.ρ).bool = true then .bool (p.ev c.ρ).bool else .bool (q.ev c.ρ).bool) (by cases hb : (e.ev c.ρ).bool <;> simp [execOp, ho, hc, hb, asBool, hx, hy]) (by
          show _ = _
          rw [mk3_ev]; cases hb : (e.ev c.ρ).bool <;> simp [U3.ev, hb])
      · rename_i k p k' q h2 h3
        split at h
        · rename_i hk
          cases h; subst hk
          rw [h2] at hx; rw [h3] at hy
          have hx : a.eval x = .int k (p.ev c.ρ).int := hx
          have hy : a.eval y = .int k (q.ev c.ρ).int := hy
          exact Does.quiet g (v := if (e.ev c.ρ).bool = true then .int k (p.ev c.ρ).int else .int k (q.ev c.ρ).int) (by cases hb : (e.ev c.ρ).bool <;> simp [execOp, ho, hc, hb, asBool, hx, hy]) (by
            show _ = _
            rw [mk3_ev]; cases hb : (e.ev c.ρ).bool <;> simp [U3.ev, hb])
        · cases h
      · cases h
    · cases h
  case h_4 ty ho =>
    split at h
    · rename_i v hz
      split at h
      · rename_i cs hcs
        split at h
        · rename_i hk
          cases h
          obtain ⟨z, hz1, hz2⟩ := Option.bind_eq_some_iff.1 hz
          obtain ⟨vs, hv, hr⟩ := sv_cells hcs hk (svOf_rel (c := c) hz2)
          exact box_ok g (hfb _ (by simp)) hr (by simp [execOp, ho, Instr.alloc, zero_run hz1, newVar, newRow, hv])
        · cases h
      · cases h
    · cases h
  case h_5 ty x ho =>
    split at h
    · rename_i cs hcs
      split at h
      · rename_i hk
        cases h
        obtain ⟨vs, hv, hr⟩ := sv_cells hcs hk (hrd.ev x)
        exact box_ok g (hfb _ (by simp)) hr (by simp [execOp, ho, Instr.box, newVar, newRow, hv])
      · cases h
    · cases h
  case h_6 ty x ho =>
    have hx := hrd.ev x
    split at h
    · rename_i p off h1
      rw [h1] at hx
      split at h
      · rename_i k hk
        simp only [Option.map_eq_some_iff] at h
        obtain ⟨sv, hs, rfl⟩ := h
        exact load_blk g ho hx (hrd.blk _ _ hk) hs
      · cases h
    · rename_i rr es ix off h1
      rw [h1] at hx
      split at h
      · rename_i k hk
        split at h
        · rename_i hc
          obtain ⟨rfl, hok⟩ := hc
          simp only [Option.map_eq_some_iff] at h
          obtain ⟨sv, hs, rfl⟩ := h
          exact load_row g ho hx (hrd.row _ _ hk) hok hs
        · cases h
      · cases h
    · cases h
  case h_7 ty x y ho =>
    have hx := hrd.ev x
    have hy := hrd.ev y
    split at h
    · rename_i p off xs hd h1 h2
      rw [h1] at hx
      split at h
      · rename_i k n hk hsz
        split at h
        · rename_i hc
          obtain ⟨rfl, hkn⟩ := hc
          simp only [Option.map_eq_some_iff] at h
          obtain ⟨cs, hcs, rfl⟩ := h
          exact store_ok g ho hx (hrd.blk _ _ hk) h2 hkn hy hsz hcs
        · cases h
      · cases h
    · rename_i rr es ix xs hd h1 h2
      rw [h1] at hx
      split at h
      · rename_i k n hk hsz
        split at h
        · rename_i hc
          simp only [Bool.and_eq_true] at hc
          obtain ⟨⟨⟨hown, hnk⟩, hes⟩, hok⟩ := hc
          have hnk := Nat.eq_of_beq_eq_true hnk
          have hes := Nat.eq_of_beq_eq_true hes
          subst hnk
          subst hes
          split at h
          · rename_i e he
            cases h
            exact rowStore_ok g ho hx (hrd.row _ _ hk) hown hok hsz he hy
          · cases h
        · cases h
      · cases h
    · cases h
  case h_8 x ho =>
    have hx := hrd.ev x
    split at h
    · rename_i p off h1
      cases h
      rw [h1] at hx
      have hx' := hx
      obtain ⟨n, _, hv⟩ := hx'
      exact Does.quiet g (by simp [execOp, ho, hv]) (hv ▸ hx)
    · rename_i f cs h1
      cases h
      rw [h1] at hx
      have hx' := hx
      obtain ⟨n, _, hv⟩ := hx'
      exact Does.quiet g (by simp [execOp, ho, hv]) (hv ▸ hx)
    · cases h
  case h_9 op ty x y yt ho =>
    obtain ⟨hr, v, hv, hrel⟩ := symBin_run (w := w) hpl h (hrd.ev x) (hrd.ev y) hn x y
    rw [hr]
    exact Does.quiet g (v := v) (by
      have : (execOp a.eval o).run P w = ((do eqGuard op ty x y (a.eval x) (a.eval y); binOp op ty (a.eval x) (a.eval y) : Sem Value).run P w).andThen fun u w' => .ok (.value u) w' := by
        simp only [execOp, ho, Sem.run_bind]
        cases Sem.run P (eqGuard op ty x y (a.eval x) (a.eval y)) w <;> simp [Result.andThen]
      rw [this, hv]; rfl) hrel
  case h_10 op ty x ho =>
    have hx := hrd.ev x
    split at h
    · rename_i k e h1
      cases h; rw [h1] at hx
      have hx : a.eval x = .int k (e.ev c.ρ).int := hx
      exact Does.quiet g (by simp [execOp, ho, hx, Op.unary, Op.intArith]; rfl) (by show _ = _; rw [mk2_ev]; simp [U2.ev, Ex.ev])
    · rename_i k e h1
      cases h; rw [h1] at hx
      have hx : a.eval x = .int k (e.ev c.ρ).int := hx
      exact Does.quiet g (by simp only [execOp, ho, hx, Op.unary, Op.intBits]; rfl) (by show _ = _; rw [mk2_ev]; rfl)
    · rename_i e h1
      cases h; rw [h1] at hx
      have hx : a.eval x = .bool (e.ev c.ρ).bool := hx
      exact Does.quiet g (by simp [execOp, ho, hx, Op.unary]; rfl) (by show _ = _; rw [mk1_ev]; rfl)
    · cases h
  case h_11 src dst x ho =>
    have hx := hrd.ev x
    split at h
    · rename_i d k k' e h1 h2 h3
      cases h; rw [h3] at hx
      have hx : a.eval x = .int k' (e.ev c.ρ).int := hx
      exact Does.quiet g (by simp [execOp, ho, hx, convert, run_underlying h1, run_underlying h2, Conv.intToInt]; rfl) (by show _ = _; rw [mk1_ev]; rfl)
    · rename_i d e h1 h2 h3
      cases h; rw [h3] at hx
      have hx : a.eval x = .string (e.ev c.ρ).str := hx
      exact Does.quiet g (by simp [execOp, ho, hx, convert, run_underlying h1, run_underlying h2]) rfl
    · cases h
  case h_12 ty x f ho =>
    have hx := hrd.ev x
    split at h
    · rename_i fd p off h1 h2
      split at h
      · rename_i m hsz
        cases h; rw [h2] at hx
        obtain ⟨fs, hu, hf⟩ := fieldB_spec h1
        obtain ⟨n, hb, hv⟩ := hx
        exact Does.quiet g (v := .pointer (some ((⟨n, off, none⟩ : Addr).add fd.offset))) (by simp [execOp, ho, Instr.fieldAt, run_underlying hu, hf, hv, Instr.sureAddr, fieldPlace, run_sizeB hsz]) ⟨n, hb, by rw [add_lit]⟩
      · cases h
    · rename_i fd rr es ix off h1 h2
      split at h
      · rename_i m hsz
        cases h; rw [h2] at hx
        obtain ⟨fs, hu, hf⟩ := fieldB_spec h1
        obtain ⟨n, q, len, cap, e1, e2, e3, hv⟩ := hx
        exact Does.quiet g (v := .pointer (some ((⟨n, q + (ix.ev c.ρ).int.toNat * es + off, none⟩ : Addr).add fd.offset))) (by simp [execOp, ho, Instr.fieldAt, run_underlying hu, hf, hv, Instr.sureAddr, fieldPlace, run_sizeB hsz]) ⟨n, q, len, cap, e1, e2, e3, by rw [add_lit, Nat.add_assoc]⟩
      · cases h
    · cases h
  case h_13 ty x f ho =>
    have hx := hrd.ev x
    split at h
    · rename_i fd cs h1 h2
      simp only [Option.map_eq_some_iff] at h
      obtain ⟨sv, hs, rfl⟩ := h
      rw [h2] at hx
      obtain ⟨vs, hv, hr⟩ := hx
      obtain ⟨fs, hu, hf⟩ := fieldB_spec h1
      obtain ⟨v, hrun, hrel⟩ := part_run hs hr w
      exact Does.quiet g (v := v) (by simp [execOp, ho, Instr.field, run_underlying hu, hf, hv, asAgg, hrun]) hrel
    · cases h
  case h_14 ty x i ho => exact index_ok g hrd ho h' hn
  case h_15 ty x i ho =>
    have hx := hrd.ev x
    have hi := hrd.ev i
    split at h
    · rename_i len el k z cs h1 h2 h3
      rw [h2] at hi; rw [h3] at hx
      have hi : a.eval i = .int k z := hi
      obtain ⟨vs, hv, hr⟩ := hx
      split at h
      · rename_i n hsz
        split at h
        · rename_i hz
          simp only [Option.map_eq_some_iff] at h
          obtain ⟨sv, hs, rfl⟩ := h
          obtain ⟨v, hrun, hrel⟩ := part_run hs hr w
          exact Does.quiet g (v := v) (by simp [execOp, ho, Instr.index, asIntOf, hi, run_underlying h1, hv, hz, run_sizeB hsz, hrun]) hrel
        · cases h
      · cases h
    · rename_i k e s h1 h2 h3
      cases h
      rw [h2] at hi; rw [h3] at hx
      have hi : a.eval i = .int k (e.ev c.ρ).int := hi
      have hx : a.eval x = .string (s.ev c.ρ).str := hx
      have n1 := hn (mk2 .le (.i 0) e) (by simp)
      have n2 := hn (mk2 .lt e (mk1 .slen s)) (by simp)
      rw [mk2_ev] at n1 n2
      rw [mk1_ev] at n2
      have n1 : (0 : Int) ≤ (e.ev c.ρ).int := of_decide_eq_true n1
      have n2 : (e.ev c.ρ).int < ((s.ev c.ρ).str.size : Int) := of_decide_eq_true n2
      have hlt : (e.ev c.ρ).int.toNat < (s.ev c.ρ).str.size := by omega
      have hget : (s.ev c.ρ).str[(e.ev c.ρ).int.toNat]? = some ((s.ev c.ρ).str[(e.ev c.ρ).int.toNat]'hlt) := by simp [hlt]
      exact Does.quiet g (v := .int .u8 ((s.ev c.ρ).str[(e.ev c.ρ).int.toNat]'hlt).toNat) (by simp [execOp, ho, Instr.index, asIntOf, hi, run_underlying h1, hx, n1, hget]) (by
        show _ = _
        rw [mk2_ev]
        simp only [U2.ev, Sc.int_i]
        congr 2
        have : (s.ev c.ρ).str.data.toList.length = (s.ev c.ρ).str.size := by simp
        rw [List.getD_eq_getElem?_getD, List.getElem?_eq_getElem (by omega)]
        simp
        rfl)
    · cases h
  case h_16 x i ho =>
    have hx := hrd.ev x
    split at h
    · rename_i xs h1
      simp only [Option.map_eq_some_iff] at h
      obtain ⟨s, hs, rfl⟩ := h
      rw [h1] at hx
      obtain ⟨vs, hv, hr⟩ := hx
      obtain ⟨v, hg, hrel⟩ := relC_get hr hs
      exact Does.quiet g (v := v) (by simp [execOp, ho, Instr.extract, hv, hg]) hrel
    · cases h
  case h_17 ty parts ho => exact build_ok g hrd ho h'
  case h_18 ty len parts ho => exact buildSlice_ok g hrd ho hfr h'
  case h_19 ty x lo hi mx ho => exact slice_ok g hrd ho h' hn
  case h_20 f first caps ho =>
    split at h
    · rename_i bs hf hb
      cases h
      obtain ⟨ns, e1, e2⟩ := ptrCaps (c := c) (vs := caps.toList.map a.eval) hb (by simp) (fun i q1 q2 => by simpa using hrd.ev _)
      have hfirst : first = #[] := by rw [← Array.toArray_toList (xs := first), hf]
      have hcaps : caps.map a.eval = (ns.map fun n => Value.pointer (some ⟨n, 0, none⟩)).toArray := by
        rw [← e2]
        apply Array.ext'
        simp
      exact Does.quiet g (v := .func (.func f) #[] (ns.map fun n => Value.pointer (some ⟨n, 0, none⟩)).toArray) (by simp [execOp, ho, Instr.makeFunc, hfirst, hcaps]) ⟨ns, e1, rfl⟩
    · cases h
  case h_21 ty x y ho => exact makeSlice_ok g hrd ho hfr h' hn
  case h_22 => cases h
theorem op_ok (hpl : PlainTy P pl) {cons : List Con} (g : Good B w0 σ c a w) (hrd : RdOk σ c a rd) {r : OpR} (hfb : ∀ i ∈ r.nb, c.β i = none) (hfr : ∀ i ∈ r.nr, c.R i = none) (h : symOp P pl cons o rd = some r) (hcall : r.call = none)
    (hn : ∀ e ∈ r.needs, (e.ev c.ρ).bool = true) : Does P B w0 σ c a w o r := by
  unfold symOp at h
  split at h
  · rename_i cl ho
    exact builtin_ok g hrd ho hfr h hcall hn
  · split at h
    · rename_i r' hr
      split at h
      · cases h; exact base_ok hpl g hrd hfb hfr hr hn
      · cases h
    · cases h
end
end Go.Proofs.YtkjgcalkkfgmlaaDoor
namespace Go.Proofs.YtkjgcalkkfgmlaaDoor
open Go.RowKit

/-- A value that stands for data; ok: the blocks in which its cells may lie. -/
def asRel (w : World) (ok : Nat → Prop) : AS → Value → Sc → Prop
  | .ck k, v, s => v = k.val s
  | .row _ ks agg, v, s => ∃ ad n cap, v = .slice ad n cap ∧ s.list.length = n ∧ n ≤ cap ∧ cap ≤ maxLen ∧
      ∀ j u, (rowFlat agg ks s.list)[j]? = some u → ∃ p o, ad = some ⟨p, o, none⟩ ∧ w.cell? ⟨p, o + j, none⟩ = some u ∧ ok p
def asRelL (w : World) (ok : Nat → Prop) : List AS → List Value → List Sc → Prop
  | [], [], [] => True
  | s :: ss, v :: vs, x :: xs => asRel w ok s v x ∧ asRelL w ok ss vs xs
  | _, _, _ => False
def csRel (w : World) (ok : Nat → Prop) : CS → Value → List Sc → Prop
  | .a s, v, l => ∃ x, l = [x] ∧ asRel w ok s v x
  | .g ss, v, l => ∃ vs, v = .agg vs.toArray ∧ asRelL w ok ss vs l
def csRelL (w : World) (ok : Nat → Prop) : List CS → List Value → List Sc → Prop
  | [], [], l => l = []
  | s :: ss, v :: vs, l => ∃ l1 l2, l = l1 ++ l2 ∧ csRel w ok s v l1 ∧ csRelL w ok ss vs l2
  | _, _, _ => False
def rsRel (w : World) (ok : Nat → Prop) : RS → Value → List Sc → Prop
  | .c s, v, l => csRel w ok s v l
  | .t ss, v, l => ∃ vs, v = .tuple vs.toArray ∧ csRelL w ok ss vs l

def CS.len : CS → Nat | .a _ => 1 | .g ss => ss.length
/-- The blocks in which an argument's cells lie. -/
def asBlk : AS → Value → Sc → Nat → Prop
  | .row _ ks agg, .slice (some a) _ _, s, p => a.block = p ∧ 0 < (rowFlat agg ks s.list).length
  | _, _, _, _ => False
def asBlkL : List AS → List Value → List Sc → Nat → Prop
  | s :: ss, v :: vs, x :: xs, p => asBlk s v x p ∨ asBlkL ss vs xs p
  | _, _, _, _ => False
def csBlk : CS → Value → List Sc → Nat → Prop
  | .a s, v, l, p => ∃ x, l = [x] ∧ asBlk s v x p
  | .g ss, v, l, p => ∃ vs, v = .agg vs.toArray ∧ asBlkL ss vs l p
def csBlkL : List CS → List Value → List Sc → Nat → Prop
  | s :: ss, v :: vs, l, p => ∃ l1 l2, l = l1 ++ l2 ∧ l1.length = s.len ∧ (csBlk s v l1 p ∨ csBlkL ss vs l2 p)
  | _, _, _, _ => False

/-- A call that enters its callee and comes back, or that is done at once. -/
def Lands (P : Program) (f : FuncId) (vs : Array Value) (w : World) (R : Value → World → Prop) : Prop :=
  ((callFunc f vs).run P w = .ok (.enter f vs) w ∧ Calls P f vs w fun e w' => ∃ v, e = .returned v ∧ R v w') ∨ ∃ v w', (callFunc f vs).run P w = .ok (.value v) w' ∧ R v w'
/-- What the package-level variables are taken to hold: it stands where no block that was there is touched. -/
class Glob (P : Program) where
  G : World → Prop
  keep : ∀ w w', G w → Below w.heap.size w w' → G w'
/-- A contract at a world. -/
def Con.holdsAt (P : Program) (con : Con) (F : List Sc → Option (List Sc)) (w : World) : Prop :=
  ∀ (vs : List Value) (l rs : List Sc), csRelL w (fun _ => True) con.args vs l → F l = some rs →
    Lands P con.f vs.toArray w fun v w' => Below w.heap.size w w' ∧ rsRel w' (fun p => w.heap.size ≤ p ∨ csBlkL con.args vs l p) con.res v rs
/-- A contract. -/
def Con.holds (P : Program) [Glob P] (con : Con) (F : List Sc → Option (List Sc)) : Prop := ∀ w : World, Glob.G P w → con.holdsAt P F w

theorem asRel_mono {w : World} {ok ok' : Nat → Prop} (h : ∀ p, ok p → ok' p) {s : AS} {v : Value} {x : Sc} (hr : asRel w ok s v x) : asRel w ok' s v x := by
  cases s with
  | ck k => exact hr
  | row el ks agg =>
    obtain ⟨ad, n, cap, e, h1, h2, h3, h4⟩ := hr
    exact ⟨ad, n, cap, e, h1, h2, h3, fun j u hj => by obtain ⟨p, o, e1, e2, e3⟩ := h4 j u hj; exact ⟨p, o, e1, e2, h p e3⟩⟩
theorem asRelL_mono {w : World} {ok ok' : Nat → Prop} (h : ∀ p, ok p → ok' p) : ∀ {s : List AS} {v : List Value} {x : List Sc}, asRelL w ok s v x → asRelL w ok' s v x
  | [], [], [], _ => trivial
  | _ :: _, _ :: _, _ :: _, hr => ⟨asRel_mono h hr.1, asRelL_mono h hr.2⟩
  | [], [], _ :: _, hr => hr.elim
  | [], _ :: _, _, hr => hr.elim
  | _ :: _, [], _, hr => hr.elim
  | _ :: _, _ :: _, [], hr => hr.elim
theorem csRel_mono {w : World} {ok ok' : Nat → Prop} (h : ∀ p, ok p → ok' p) {s : CS} {v : Value} {x : List Sc} (hr : csRel w ok s v x) : csRel w ok' s v x := by
  cases s with
  | a s => obtain ⟨y, e, r⟩ := hr; exact ⟨y, e, asRel_mono h r⟩
  | g ss => obtain ⟨y, e, r⟩ := hr; exact ⟨y, e, asRelL_mono h r⟩
theorem csRelL_mono {w : World} {ok ok' : Nat → Prop} (h : ∀ p, ok p → ok' p) : ∀ {s : List CS} {v : List Value} {x : List Sc}, csRelL w ok s v x → csRelL w ok' s v x
  | [], [], _, hr => hr
  | _ :: _, _ :: _, _, ⟨l1, l2, e, r1, r2⟩ => ⟨l1, l2, e, csRel_mono h r1, csRelL_mono h r2⟩
  | [], _ :: _, _, hr => hr.elim
  | _ :: _, [], _, hr => hr.elim
theorem asBlk_ok {w : World} {ok : Nat → Prop} {s : AS} {v : Value} {x : Sc} (hr : asRel w ok s v x) {p : Nat} (hp : asBlk s v x p) : ok p := by
  cases s with
  | ck k => exact hp.elim
  | row el ks agg =>
    obtain ⟨ad, n, cap, rfl, h1, h2, h3, h4⟩ := hr
    cases ad with
    | none => exact hp.elim
    | some a =>
      obtain ⟨rfl, hl⟩ := hp
      obtain ⟨p, o, e1, e2, e3⟩ := h4 0 _ (List.getElem?_eq_getElem hl)
      cases e1; exact e3
theorem asBlkL_ok {w : World} {ok : Nat → Prop} : ∀ {s : List AS} {v : List Value} {x : List Sc}, asRelL w ok s v x → ∀ {p : Nat}, asBlkL s v x p → ok p
  | _ :: _, _ :: _, _ :: _, hr, _, hp => hp.elim (fun h => asBlk_ok hr.1 h) (fun h => asBlkL_ok hr.2 h)
  | [], _, _, _, _, hp => hp.elim
  | _ :: _, [], _, _, _, hp => hp.elim
  | _ :: _, _ :: _, [], _, _, hp => hp.elim
theorem asRelL_len {w : World} {ok : Nat → Prop} : ∀ {s : List AS} {v : List Value} {x : List Sc}, asRelL w ok s v x → x.length = s.length
  | [], [], [], _ => rfl
  | _ :: _, _ :: _, _ :: _, hr => by simp [asRelL_len hr.2]
  | [], [], _ :: _, hr => hr.elim
  | [], _ :: _, _, hr => hr.elim
  | _ :: _, [], _, hr => hr.elim
  | _ :: _, _ :: _, [], hr => hr.elim
theorem csRel_len {w : World} {ok : Nat → Prop} {s : CS} {v : Value} {l : List Sc} (hr : csRel w ok s v l) : l.length = s.len := by
  cases s with
  | a s => obtain ⟨y, rfl, r⟩ := hr; rfl
  | g ss => obtain ⟨y, e, r⟩ := hr; exact asRelL_len r
theorem csBlk_ok {w : World} {ok : Nat → Prop} {s : CS} {v : Value} {l : List Sc} (hr : csRel w ok s v l) {p : Nat} (hp : csBlk s v l p) : ok p := by
  cases s with
  | a s => obtain ⟨y, rfl, r⟩ := hr; obtain ⟨z, e, hz⟩ := hp; cases e; exact asBlk_ok r hz
  | g ss =>
    obtain ⟨y, rfl, r⟩ := hr
    obtain ⟨z, e, hz⟩ := hp
    simp at e; subst e
    exact asBlkL_ok r hz
theorem csBlkL_ok {w : World} {ok : Nat → Prop} : ∀ {s : List CS} {v : List Value} {l : List Sc}, csRelL w ok s v l → ∀ {p : Nat}, csBlkL s v l p → ok p
  | s :: ss, _ :: _, _, ⟨l1, l2, e, r1, r2⟩, p, ⟨m1, m2, e', hl, hp⟩ => by
    subst e
    have := csRel_len r1
    have h := List.append_inj e' (by rw [this, hl])
    obtain ⟨rfl, rfl⟩ := h
    exact hp.elim (fun h => csBlk_ok r1 h) (fun h => csBlkL_ok r2 h)
  | [], _, _, _, _, hp => hp.elim
  | _ :: _, [], _, _, _, hp => hp.elim

section
variable {P : Program} {B : Nat} {w0 : World} {σ : St} {c : Ct} {a : Act} {w : World} {o : Oper} {rd : Rd}

/-- Rows that are handed on, one after the other. -/
theorem Good.freezes : ∀ {fr : List (Nat × Option Rw)} {σ : St}, Good B w0 σ c a w → (∀ q z, (q, z) ∈ fr → ∃ k, σ.row q = some k ∧ z = some { k with own := false }) →
    Good B w0 { σ with rows := putRows σ.rows fr } c a w ∧ (∀ q k, σ.row q = some k → St.row { σ with rows := putRows σ.rows fr } q = (if q ∈ fr.map (·.1) then some { k with own := false } else some k))
  | [], σ, g, _ => ⟨g, fun q k h => by simp only [List.map_nil, List.not_mem_nil, if_false]; exact h⟩
  | (r, z) :: fr, σ, g, h => by
    obtain ⟨k, hk, rfl⟩ := h r z (by simp)
    have g1 := g.freeze hk
    have hrow : ∀ q, St.row { σ with rows := setN none σ.rows r (some { k with own := false }) } q = if q = r then some { k with own := false } else σ.row q := fun q => row_set σ.rows r _ q
    obtain ⟨g2, h2⟩ := Good.freezes (fr := fr) g1 (fun q z hz => by
      obtain ⟨k', hk', hz'⟩ := h q z (List.mem_cons_of_mem _ hz)
      by_cases hq : q = r
      · subst hq
        rw [hk] at hk'; cases hk'
        exact ⟨{ k with own := false }, by rw [hrow, if_pos rfl], hz'⟩
      · exact ⟨k', by rw [hrow, if_neg hq]; exact hk', hz'⟩)
    refine ⟨g2, fun q k' hk' => ?_⟩
    have e : (St.row { σ with rows := putRows σ.rows ((r, some { k with own := false }) :: fr) } q) = St.row { { σ with rows := setN none σ.rows r (some { k with own := false }) } with rows := putRows (setN none σ.rows r (some { k with own := false })) fr } q := rfl
    rw [e]
    by_cases hq : q = r
    · subst hq
      rw [hk] at hk'; cases hk'
      rw [h2 q { k with own := false } (by rw [hrow, if_pos rfl])]
      simp only [ite_self, List.map_cons, List.mem_cons, true_or, if_true]
    · rw [h2 q k' (by rw [hrow, if_neg hq]; exact hk')]
      simp only [List.map_cons, List.mem_cons, hq, false_or]

def okIn (B : Nat) (σ : St) (c : Ct) (p : Nat) : Prop := (∀ x, ¬ σ.owns c x p) ∧ (B ≤ p ∨ c.K p)

theorem sliceOf_row {row row' : Nat → Option Rw} {sv : SV} {src : Option (Nat × Rw)} {lo len : Ex} (h : sliceOf row sv = some (src, lo, len)) (h2 : ∀ q k, row q = some k → src = some (q, k) → row' q = some { k with own := false }) :
    sliceOf row' sv = some (src.map (fun x => (x.1, { x.2 with own := false })), lo, len) := by
  rcases sv with (x | cs) | xs
  case c.g => simp [sliceOf] at h
  case t => simp [sliceOf] at h
  cases x <;> try (simp [sliceOf] at h; done)
  case vec r =>
    cases hk : row r with
    | none => simp [sliceOf, hk] at h
    | some k =>
      by_cases hf : okFormB k.agg k.ks = true
      · simp [sliceOf, hk, hf] at h
        obtain ⟨rfl, rfl, rfl⟩ := h
        simp [sliceOf, h2 r k hk rfl, hf]
      · simp [sliceOf, hk, hf] at h
  case sl r es lo' len' =>
    cases hk : row r with
    | none => simp [sliceOf, hk] at h
    | some k =>
      by_cases hf : es = k.ks.length ∧ okFormB k.agg k.ks = true
      · simp [sliceOf, hk, hf] at h
        obtain ⟨rfl, rfl, rfl⟩ := h
        simp [sliceOf, h2 r k hk rfl, hf]
      · simp [sliceOf, hk, hf] at h
  case nils =>
    simp [sliceOf] at h
    obtain ⟨rfl, rfl, rfl⟩ := h
    simp [sliceOf]

theorem argOf_spec (g : Good B w0 σ c a w) {row : Nat → Option Rw} {s : AS} {x : At} {e : Ex} {fr : List (Nat × Option Rw)} (h : argOf row s x = some (e, fr)) (hfz : ∀ q k, row q = some k → (k.own = false ∨ (q, some { k with own := false }) ∈ fr) → σ.row q = some { k with own := false })
    {v : Value} (hv : x.rel c v) : asRel w (okIn B σ c) s v (e.ev c.ρ) ∧ (∀ q z, (q, z) ∈ fr → ∃ k, row q = some k ∧ z = some { k with own := false }) := by
  cases s with
  | ck k =>
    simp only [argOf, Option.map_eq_some_iff, Prod.mk.injEq] at h
    obtain ⟨e', h1, rfl, rfl⟩ := h
    exact ⟨atCk_val h1 hv, fun q z hz => by cases hz⟩
  | row el ks agg =>
    simp only [argOf] at h
    · split at h
      · rename_i r k lo len hs
        split at h
        · rename_i hc
          obtain ⟨rfl, rfl, rfl⟩ := hc
          simp only [Option.some.injEq, Prod.mk.injEq] at h
          obtain ⟨rfl, rfl⟩ := h
          have hrk : row r = some k := by
            have := hs
            cases x <;> simp [sliceOf] at this
            case vec q =>
              split at this
              · rename_i k' hk'; split at this <;> simp at this
                obtain ⟨⟨rfl, rfl⟩, _⟩ := this; exact hk'
              · cases this
            case sl q es l1 l2 =>
              split at this
              · rename_i k' hk'; split at this <;> simp at this
                obtain ⟨⟨rfl, rfl⟩, _⟩ := this; exact hk'
              · cases this
          have hs' := sliceOf_row (row' := σ.row) hs (fun q k' hq hsrc => by
            simp at hsrc
            obtain ⟨rfl, rfl⟩ := hsrc
            refine hfz r k hrk ?_
            cases hown : k.own
            · exact .inl rfl
            · right; simp)
          obtain ⟨ad, n, cap, hv', hl, hlo, hnc, hcm, hcl, hmat⟩ := sliceOf_spec g (fun _ _ h => h) hs' hv
          simp only [Option.map_some] at hmat hcl
          obtain ⟨_, _, _, _, _, _, _, _, _, hcell⟩ := hmat
          have hcont : contOf (.at x) (some (r, k)) lo len = contOf (.at x) (some (r, { k with own := false })) lo len := by
            cases x <;> rfl
          refine ⟨⟨ad, n, cap, hv', by rw [hcont]; exact hcl, hnc, hcm, fun j u hj => ?_⟩, fun q z hz => ?_⟩
          · rw [hcont] at hj
            obtain ⟨p, o, e1, e2, e3⟩ := hcell j u hj
            exact ⟨p, o, e1, e2, e3 trivial⟩
          · cases hown : k.own
            · rw [hown] at hz; simp at hz
            · rw [hown] at hz; simp at hz; obtain ⟨rfl, rfl⟩ := hz; exact ⟨k, hrk, rfl⟩
        · cases h
      · rename_i lo len hs
        cases h
        cases x <;> simp [sliceOf] at hs
        case nils =>
          have hv : v = .slice none 0 0 := hv
          exact ⟨⟨none, 0, 0, hv, rfl, Nat.le_refl _, by simp [maxLen], fun j u hj => by simp [rowFlat, Ex.ev] at hj⟩, fun q z hz => by cases hz⟩
        case vec q => split at hs <;> (try split at hs) <;> simp at hs
        case sl q _ _ _ => split at hs <;> (try split at hs) <;> simp at hs
      · cases h
end
end Go.Proofs.YtkjgcalkkfgmlaaDoor
namespace Go.Proofs.YtkjgcalkkfgmlaaDoor
open Go.RowKit

section
variable {P : Program} {B : Nat} {w0 : World} {σ : St} {c : Ct} {a : Act} {w : World} {o : Oper} {rd : Rd}

/-- The rows that are handed on are no longer one's own. -/
def Fz (row : Nat → Option Rw) (σ : St) (fr : List (Nat × Option Rw)) : Prop := ∀ q k, row q = some k → (k.own = false ∨ (q, some { k with own := false }) ∈ fr) → σ.row q = some { k with own := false }
def FzOk (row : Nat → Option Rw) (fr : List (Nat × Option Rw)) : Prop := ∀ q z, (q, z) ∈ fr → ∃ k, row q = some k ∧ z = some { k with own := false }
theorem Fz.left {row : Nat → Option Rw} {f1 f2 : List (Nat × Option Rw)} (h : Fz row σ (f1 ++ f2)) : Fz row σ f1 := fun q k hk hc => h q k hk (hc.imp id (fun m => List.mem_append_left _ m))
theorem Fz.right {row : Nat → Option Rw} {f1 f2 : List (Nat × Option Rw)} (h : Fz row σ (f1 ++ f2)) : Fz row σ f2 := fun q k hk hc => h q k hk (hc.imp id (fun m => List.mem_append_right _ m))
theorem FzOk.append {row : Nat → Option Rw} {f1 f2 : List (Nat × Option Rw)} (h1 : FzOk row f1) (h2 : FzOk row f2) : FzOk row (f1 ++ f2) := fun q z hz => (List.mem_append.1 hz).elim (h1 q z) (h2 q z)

theorem argsOf_spec (g : Good B w0 σ c a w) {row : Nat → Option Rw} : ∀ {ss : List AS} {xs : List At} {es : List Ex} {fr : List (Nat × Option Rw)}, argsOf row ss xs = some (es, fr) → Fz row σ fr → ∀ {vs : List Value}, relL c xs vs →
    asRelL w (okIn B σ c) ss vs (es.map (Ex.ev c.ρ)) ∧ FzOk row fr
  | [], [], es, fr, h, _, vs, hv => by
    simp [argsOf] at h
    obtain ⟨rfl, rfl⟩ := h
    cases vs with
    | nil => exact ⟨trivial, fun q z hz => by cases hz⟩
    | cons => exact hv.elim
  | s :: ss, x :: xs, es, fr, h, hf, vs, hv => by
    match vs, hv with
    | v :: vs, hv =>
      simp only [argsOf] at h
      split at h
      · rename_i e r es' rs h1 h2
        cases h
        obtain ⟨q1, q2⟩ := argOf_spec g h1 hf.left hv.1
        obtain ⟨q3, q4⟩ := argsOf_spec g h2 hf.right hv.2
        exact ⟨⟨q1, q3⟩, FzOk.append q2 q4⟩
      · cases h
  | [], _ :: _, _, _, h, _, _, _ => by simp [argsOf] at h
  | _ :: _, [], _, _, h, _, _, _ => by simp [argsOf] at h

theorem argC_spec (g : Good B w0 σ c a w) {row : Nat → Option Rw} {s : CS} {x : SV} {es : List Ex} {fr : List (Nat × Option Rw)} (h : argC row s x = some (es, fr)) (hf : Fz row σ fr) {v : Value} (hv : x.rel c v) :
    csRel w (okIn B σ c) s v (es.map (Ex.ev c.ρ)) ∧ FzOk row fr := by
  unfold argC at h
  split at h
  · simp only [Option.map_eq_some_iff, Prod.mk.injEq] at h
    obtain ⟨⟨e, r⟩, h1, h2, rfl⟩ := h
    subst h2
    obtain ⟨q1, q2⟩ := argOf_spec g h1 hf hv
    exact ⟨⟨_, rfl, q1⟩, q2⟩
  · obtain ⟨vs, rfl, hr⟩ := hv
    obtain ⟨q1, q2⟩ := argsOf_spec g h hf hr
    exact ⟨⟨vs, rfl, q1⟩, q2⟩
  · cases h

theorem argsC_spec (g : Good B w0 σ c a w) {row : Nat → Option Rw} : ∀ {ss : List CS} {xs : List SV} {es : List Ex} {fr : List (Nat × Option Rw)}, argsC row ss xs = some (es, fr) → Fz row σ fr → ∀ {vs : List Value}, xs.length = vs.length →
    (∀ i (h1 : i < xs.length) (h2 : i < vs.length), (xs[i]).rel c (vs[i])) → csRelL w (okIn B σ c) ss vs (es.map (Ex.ev c.ρ)) ∧ FzOk row fr
  | [], [], es, fr, h, _, vs, hl, hv => by
    simp [argsC] at h
    obtain ⟨rfl, rfl⟩ := h
    cases vs with
    | nil => exact ⟨rfl, fun q z hz => by cases hz⟩
    | cons => simp at hl
  | s :: ss, x :: xs, es, fr, h, hf, vs, hl, hv => by
    cases vs with
    | nil => simp at hl
    | cons v vs =>
      simp only [argsC] at h
      split at h
      · rename_i e r es' rs h1 h2
        cases h
        obtain ⟨q1, q2⟩ := argC_spec g h1 hf.left (hv 0 (by simp) (by simp))
        obtain ⟨q3, q4⟩ := argsC_spec g h2 hf.right (vs := vs) (by simpa using hl) (fun i h1 h2 => by
          have := hv (i + 1) (by simp; omega) (by simp; omega)
          simpa using this)
        exact ⟨⟨_, _, by simp, q1, q3⟩, FzOk.append q2 q4⟩
      · cases h
  | [], _ :: _, _, _, h, _, _, _, _ => by simp [argsC] at h
  | _ :: _, [], _, _, h, _, _, _, _ => by simp [argsC] at h

/-! ### Results -/
/-- What the rows of a result add to a state. -/
def Adds (B : Nat) (w0 : World) (σ : St) (c : Ct) (a : Act) (w : World) (rs : List (Nat × Option Rw)) (nr nr' : Nat) (R : Ct → Prop) : Prop :=
  ∃ c', c.le c' ∧ c'.β = c.β ∧ (∀ i, i < nr ∨ nr' ≤ i → c'.R i = c.R i) ∧ R c' ∧ Good B w0 { σ with rows := putRows σ.rows rs } c' a w
theorem putRows_append : ∀ (l : List (Option Rw)) (r s : List (Nat × Option Rw)), putRows l (r ++ s) = putRows (putRows l r) s
  | _, [], _ => rfl
  | l, (i, v) :: r, s => putRows_append (setN none l i v) r s

theorem okIn_rows {rs : List (Nat × Option Rw)} {c' : Ct} {K : Nat → Prop} (h : ∀ p, K p → okIn B σ c p) (h2 : ∀ x p, St.owns { σ with rows := putRows σ.rows rs } c' x p → σ.owns c x p) (hK : c'.K = c.K) : ∀ p, K p → okIn B { σ with rows := putRows σ.rows rs } c' p :=
  fun p hp => ⟨fun x hx => (h p hp).1 x (h2 x p hx), by rw [hK]; exact (h p hp).2⟩

/-- Only rows of others are added. -/
structure Ext (B : Nat) (σ σ' : St) (c c' : Ct) : Prop where
  le : c.le c'
  owns : ∀ x p, σ'.owns c' x p → σ.owns c x p

theorem resA_spec (g : Good B w0 σ c a w) {ok : Nat → Prop} (hok : ∀ p, ok p → okIn B σ c p) {s : AS} {nv nr : Nat} {v : Value} {y : Sc} (hy : c.ρ.getD nv (.i 0) = y) (hr : asRel w ok s v y) (hR : c.R nr = none) :
    ∃ c', c'.β = c.β ∧ (∀ i, i < nr ∨ (resA nv nr s).2.2 ≤ i → c'.R i = c.R i) ∧ nr ≤ (resA nv nr s).2.2 ∧ (resA nv nr s).1.rel c' v ∧ Good B w0 { σ with rows := putRows σ.rows (resA nv nr s).2.1 } c' a w ∧
      Ext B σ { σ with rows := putRows σ.rows (resA nv nr s).2.1 } c c' := by
  cases s with
  | ck k =>
    refine ⟨c, rfl, fun _ _ => rfl, Nat.le_refl _, ?_, g, .refl c, fun _ _ h => h⟩
    have hr : v = k.val y := hr
    subst hr hy
    cases k <;> rfl
  | row el ks agg =>
    obtain ⟨ad, n, cap, rfl, h1, h2, h3, h4⟩ := hr
    have hev : ((Ex.v nv).ev c.ρ).list = y.list := by show (c.ρ.getD nv (.i 0)).list = _; rw [hy]
    have gg := g.newRow (w' := w) g.below (Nat.le_refl _) (fun _ _ => rfl) hR (k := ⟨el, ks, agg, .v nv, false⟩) (ad := ad) (n := n) (cap := cap) (by rw [hev]; exact h1) h2 h3 (fun h => by cases h) (fun _ j u hj => by
      rw [hev] at hj
      obtain ⟨p, o, e1, e2, e3⟩ := h4 j u hj
      exact ⟨p, o, e1, e2, hok p e3⟩)
    refine ⟨{ c with R := fun i => if i = nr then some (.slice ad n cap) else c.R i }, rfl, fun i hi => ?_, Nat.le_succ _, ⟨by simp, ad, n, cap, rfl⟩, gg, ⟨rfl, rfl, fun _ _ e => e, fun i u e => ?_⟩, ?_⟩
    · have : i ≠ nr := by simp only [resA] at hi; omega
      simp [this]
    · by_cases h : i = nr
      · subst h; rw [hR] at e; cases e
      · simp [h, e]
    · rintro ⟨t, q⟩ p h
      cases t
      · exact h
      · obtain ⟨⟨k', hk', ho⟩, u, hu, hp⟩ := h
        have hk' : (setN none σ.rows nr (some ⟨el, ks, agg, .v nv, false⟩)).getD q none = some k' := hk'
        rw [row_set] at hk'
        by_cases hq : q = nr
        · rw [if_pos hq] at hk'; cases hk'; cases ho
        · rw [if_neg hq] at hk'
          simp [hq] at hu
          exact ⟨⟨k', hk', ho⟩, u, hu, hp⟩

theorem resAs_spec : ∀ {ss : List AS} {σ : St} {c : Ct} {nv nr : Nat} {vs : List Value} {ys : List Sc} {ok : Nat → Prop}, Good B w0 σ c a w → (∀ p, ok p → okIn B σ c p) → (∀ i, i < ys.length → c.ρ.getD (nv + i) (.i 0) = ys.getD i (.i 0)) →
    asRelL w ok ss vs ys → (∀ i, nr ≤ i → i < (resAs nv nr ss).2.2.2 → c.R i = none) →
    ∃ c', c'.β = c.β ∧ (∀ i, i < nr ∨ (resAs nv nr ss).2.2.2 ≤ i → c'.R i = c.R i) ∧ nr ≤ (resAs nv nr ss).2.2.2 ∧ (resAs nv nr ss).2.2.1 = nv + ss.length ∧ relL c' (resAs nv nr ss).1 vs ∧
      Good B w0 { σ with rows := putRows σ.rows (resAs nv nr ss).2.1 } c' a w ∧ Ext B σ { σ with rows := putRows σ.rows (resAs nv nr ss).2.1 } c c'
  | [], σ, c, nv, nr, [], [], ok, g, _, _, _, _ => ⟨c, rfl, fun _ _ => rfl, Nat.le_refl _, rfl, trivial, g, .refl c, fun _ _ h => h⟩
  | s :: ss, σ, c, nv, nr, v :: vs, y :: ys, ok, g, hok, hy, hr, hR => by
    have hmono : ∀ (ss : List AS) (nv nr : Nat), nr ≤ (resAs nv nr ss).2.2.2 := by
      intro ss
      induction ss with
      | nil => intro nv nr; exact Nat.le_refl _
      | cons s ss ih => intro nv nr; exact Nat.le_trans (by cases s <;> simp [resA]) (ih (nv + 1) (resA nv nr s).2.2)
    have hstep := hmono ss (nv + 1) (resA nv nr s).2.2
    have hfirst : s = s := rfl
    by_cases hrow : (resA nv nr s).2.2 = nr
    · -- a plain cell
      cases s with
      | row el ks agg => simp [resA] at hrow
      | ck k =>
        have h0 := hy 0 (by simp)
        simp only [Nat.add_zero, List.getD_cons_zero] at h0
        obtain ⟨c2, d1, d2, d3, d4, d5, d6, d7⟩ := resAs_spec (ss := ss) (nv := nv + 1) (nr := nr) (vs := vs) (ys := ys) g hok (fun i hi => by
          have := hy (i + 1) (by simp; omega)
          rw [show nv + 1 + i = nv + (i + 1) by omega]; simpa using this) hr.2 hR
        refine ⟨c2, d1, d2, d3, by simp only [resAs, resA]; rw [d4]; simp; omega, ⟨?_, d5⟩, d6, d7⟩
        have hv : v = k.val y := hr.1
        subst hv
        rw [← h0, ← d7.le.ρ]
        cases k <;> rfl
    · have hRn : c.R nr = none := hR nr (Nat.le_refl _) (by
        have : nr < (resA nv nr s).2.2 := by cases s <;> simp [resA] at hrow ⊢
        exact Nat.lt_of_lt_of_le this hstep)
      have h0 := hy 0 (by simp)
      simp only [Nat.add_zero, List.getD_cons_zero] at h0
      obtain ⟨c1, a1, a2, a3, a4, a5, a6⟩ := resA_spec g hok (nv := nv) (nr := nr) h0 hr.1 hRn
      obtain ⟨c2, d1, d2, d3, d4, d5, d6, d7⟩ := resAs_spec (ss := ss) (nv := nv + 1) (nr := (resA nv nr s).2.2) (vs := vs) (ys := ys) (ok := ok) a5
        (fun p hp => ⟨fun x hx => (hok p hp).1 x (a6.owns x p hx), by rw [a6.le.K]; exact (hok p hp).2⟩) (fun i hi => by
          have := hy (i + 1) (by simp; omega)
          rw [a6.le.ρ, show nv + 1 + i = nv + (i + 1) by omega]; simpa using this) hr.2 (fun i h1 h2 => by
          rw [a2 i (.inr h1)]; exact hR i (by omega) h2)
      refine ⟨c2, d1.trans a1, fun i hi => ?_, Nat.le_trans a3 d3, by simp only [resAs]; rw [d4]; simp; omega, ⟨At.rel_le d7.le a4, d5⟩, ?_, a6.le.trans d7.le, fun x p h => a6.owns x p (d7.owns x p ?_)⟩
      · have hi' : i < nr ∨ (resAs (nv + 1) (resA nv nr s).2.2 ss).2.2.2 ≤ i := hi
        rw [d2 i (by omega), a2 i (by omega)]
      · simp only [resAs]; rw [putRows_append]; exact d6
      · simp only [resAs] at h; rw [putRows_append] at h; exact h
  | [], _, _, _, _, [], _ :: _, _, _, _, _, hr, _ => hr.elim
  | [], _, _, _, _, _ :: _, _, _, _, _, _, hr, _ => hr.elim
  | _ :: _, _, _, _, _, [], _, _, _, _, _, hr, _ => hr.elim
  | _ :: _, _, _, _, _, _ :: _, [], _, _, _, _, hr, _ => hr.elim
end
end Go.Proofs.YtkjgcalkkfgmlaaDoor
namespace Go.Proofs.YtkjgcalkkfgmlaaDoor
open Go.RowKit

section
variable {P : Program} {B : Nat} {w0 : World} {σ : St} {c : Ct} {a : Act} {w : World} {o : Oper} {rd : Rd}

theorem resA_mono (nv nr : Nat) (s : AS) : nr ≤ (resA nv nr s).2.2 := by cases s <;> simp [resA]
theorem resAs_mono : ∀ (ss : List AS) (nv nr : Nat), nr ≤ (resAs nv nr ss).2.2.2
  | [], _, _ => Nat.le_refl _
  | s :: ss, nv, nr => Nat.le_trans (resA_mono nv nr s) (resAs_mono ss (nv + 1) (resA nv nr s).2.2)
theorem resC_mono (s : CS) (nv nr : Nat) : nr ≤ (resC nv nr s).2.2.2 := by
  cases s with
  | a s => exact resA_mono nv nr s
  | g ss => exact resAs_mono ss nv nr
theorem resCs_mono : ∀ (ss : List CS) (nv nr : Nat), nr ≤ (resCs nv nr ss).2.2.2
  | [], _, _ => Nat.le_refl _
  | s :: ss, nv, nr => Nat.le_trans (resC_mono s nv nr) (resCs_mono ss _ _)

theorem resC_spec {s : CS} {nv nr : Nat} {v : Value} {ys : List Sc} {ok : Nat → Prop} (g : Good B w0 σ c a w) (hok : ∀ p, ok p → okIn B σ c p) (hy : ∀ i, i < ys.length → c.ρ.getD (nv + i) (.i 0) = ys.getD i (.i 0))
    (hr : csRel w ok s v ys) (hR : ∀ i, nr ≤ i → i < (resC nv nr s).2.2.2 → c.R i = none) :
    ∃ c', c'.β = c.β ∧ (∀ i, i < nr ∨ (resC nv nr s).2.2.2 ≤ i → c'.R i = c.R i) ∧ (resC nv nr s).2.2.1 = nv + s.len ∧ (resC nv nr s).1.rel c' v ∧
      Good B w0 { σ with rows := putRows σ.rows (resC nv nr s).2.1 } c' a w ∧ Ext B σ { σ with rows := putRows σ.rows (resC nv nr s).2.1 } c c' := by
  cases s with
  | a s =>
    obtain ⟨y, rfl, hr⟩ := hr
    have h := resAs_spec (ss := [s]) (vs := [v]) (ys := [y]) (nv := nv) (nr := nr) g hok hy ⟨hr, trivial⟩ hR
    obtain ⟨c', d1, d2, d3, d4, d5, d6, d7⟩ := h
    simp only [resAs, List.append_nil] at d2 d5 d6 d7
    exact ⟨c', d1, d2, rfl, d5.1, d6, d7⟩
  | g ss =>
    obtain ⟨vs, rfl, hr⟩ := hr
    obtain ⟨c', d1, d2, d3, d4, d5, d6, d7⟩ := resAs_spec (ss := ss) (nv := nv) (nr := nr) g hok hy hr hR
    exact ⟨c', d1, d2, d4, ⟨vs, rfl, d5⟩, d6, d7⟩

theorem resCs_spec : ∀ {ss : List CS} {σ : St} {c : Ct} {nv nr : Nat} {vs : List Value} {ys : List Sc} {ok : Nat → Prop}, Good B w0 σ c a w → (∀ p, ok p → okIn B σ c p) → (∀ i, i < ys.length → c.ρ.getD (nv + i) (.i 0) = ys.getD i (.i 0)) →
    csRelL w ok ss vs ys → (∀ i, nr ≤ i → i < (resCs nv nr ss).2.2.2 → c.R i = none) →
    ∃ c', c'.β = c.β ∧ (∀ i, i < nr ∨ (resCs nv nr ss).2.2.2 ≤ i → c'.R i = c.R i) ∧ relC c' (resCs nv nr ss).1 vs ∧
      Good B w0 { σ with rows := putRows σ.rows (resCs nv nr ss).2.1 } c' a w ∧ Ext B σ { σ with rows := putRows σ.rows (resCs nv nr ss).2.1 } c c'
  | [], σ, c, nv, nr, [], ys, ok, g, _, _, _, _ => ⟨c, rfl, fun _ _ => rfl, trivial, g, .refl c, fun _ _ h => h⟩
  | s :: ss, σ, c, nv, nr, v :: vs, ys, ok, g, hok, hy, hr, hR => by
    obtain ⟨l1, l2, rfl, r1, r2⟩ := hr
    have m1 := resC_mono s nv nr
    have hlen := csRel_len r1
    obtain ⟨c1, a1, a2, a4, a5, a6, a7⟩ := resC_spec (nv := nv) (nr := nr) g hok (fun i hi => by
      have := hy i (by simp; omega)
      rw [this]; exact getD_append_lt _ _ _ _ hi) r1 (fun i h1 h2 => hR i h1 (Nat.lt_of_lt_of_le h2 (resCs_mono ss _ _)))
    obtain ⟨c2, d1, d2, d4, d5, d6⟩ := resCs_spec (ss := ss) (nv := (resC nv nr s).2.2.1) (nr := (resC nv nr s).2.2.2) (vs := vs) (ys := l2) (ok := ok) a6
      (fun p hp => ⟨fun x hx => (hok p hp).1 x (a7.owns x p hx), by rw [a7.le.K]; exact (hok p hp).2⟩) (fun i hi => by
        have := hy (l1.length + i) (by simp; omega)
        rw [a7.le.ρ, a4, ← hlen, Nat.add_assoc, this]
        rw [List.getD_eq_getElem?_getD, List.getElem?_append_right (by omega), Nat.add_sub_cancel_left, ← List.getD_eq_getElem?_getD]) r2 (fun i h1 h2 => by rw [a2 i (.inr h1)]; exact hR i (by omega) h2)
    have m2 := resCs_mono ss (resC nv nr s).2.2.1 (resC nv nr s).2.2.2
    refine ⟨c2, d1.trans a1, fun i hi => ?_, ⟨SC.rel_le d6.le a5, d4⟩, ?_, a7.le.trans d6.le, fun x p h => a7.owns x p (d6.owns x p ?_)⟩
    · have hi' : i < nr ∨ (resCs (resC nv nr s).2.2.1 (resC nv nr s).2.2.2 ss).2.2.2 ≤ i := hi
      rw [d2 i (by omega), a2 i (by omega)]
    · simp only [resCs]; rw [putRows_append]; exact d5
    · simp only [resCs] at h; rw [putRows_append] at h; exact h
  | [], _, _, _, _, _ :: _, _, _, _, _, _, hr, _ => hr.elim
  | _ :: _, _, _, _, _, [], _, _, _, _, _, hr, _ => hr.elim

theorem resR_spec {s : RS} {nv nr : Nat} {v : Value} {ys : List Sc} {ok : Nat → Prop} (g : Good B w0 σ c a w) (hok : ∀ p, ok p → okIn B σ c p) (hy : ∀ i, i < ys.length → c.ρ.getD (nv + i) (.i 0) = ys.getD i (.i 0))
    (hr : rsRel w ok s v ys) (hR : ∀ i, nr ≤ i → i < (resR nv nr s).2.2.2 → c.R i = none) :
    ∃ c', c'.β = c.β ∧ (∀ i, i < nr ∨ (resR nv nr s).2.2.2 ≤ i → c'.R i = c.R i) ∧ (resR nv nr s).1.rel c' v ∧
      Good B w0 { σ with rows := putRows σ.rows (resR nv nr s).2.1 } c' a w ∧ c.le c' := by
  cases s with
  | c s =>
    obtain ⟨c', d1, d2, d3, d4, d5, d6⟩ := resC_spec (nv := nv) (nr := nr) g hok hy hr hR
    exact ⟨c', d1, d2, d4, d5, d6.le⟩
  | t ss =>
    obtain ⟨vs, rfl, hr⟩ := hr
    obtain ⟨c', d1, d2, d3, d4, d5⟩ := resCs_spec (nv := nv) (nr := nr) g hok hy hr hR
    exact ⟨c', d1, d2, ⟨vs, rfl, d3⟩, d4, d5.le⟩

/-- The rows of a result, by their numbers. -/
theorem resA_rows (nv nr : Nat) (s : AS) : ∀ i, i ∈ (resA nv nr s).2.1.map (·.1) ↔ nr ≤ i ∧ i < (resA nv nr s).2.2 := by
  cases s <;> intro i <;> simp [resA] <;> omega
theorem resAs_rows : ∀ (ss : List AS) (nv nr : Nat) (i : Nat), i ∈ (resAs nv nr ss).2.1.map (·.1) ↔ nr ≤ i ∧ i < (resAs nv nr ss).2.2.2
  | [], _, nr, i => by simp [resAs]
  | s :: ss, nv, nr, i => by
    have h1 := resA_rows nv nr s i
    have h2 := resAs_rows ss (nv + 1) (resA nv nr s).2.2 i
    have m1 := resA_mono nv nr s
    have m2 := resAs_mono ss (nv + 1) (resA nv nr s).2.2
    show i ∈ ((resA nv nr s).2.1 ++ (resAs (nv + 1) (resA nv nr s).2.2 ss).2.1).map (·.1) ↔ nr ≤ i ∧ i < (resAs (nv + 1) (resA nv nr s).2.2 ss).2.2.2
    rw [List.map_append, List.mem_append, h1, h2]
    omega
theorem resC_rows (s : CS) (nv nr : Nat) (i : Nat) : i ∈ (resC nv nr s).2.1.map (·.1) ↔ nr ≤ i ∧ i < (resC nv nr s).2.2.2 := by
  cases s with
  | a s => exact resA_rows nv nr s i
  | g ss => exact resAs_rows ss nv nr i
theorem resCs_rows : ∀ (ss : List CS) (nv nr : Nat) (i : Nat), i ∈ (resCs nv nr ss).2.1.map (·.1) ↔ nr ≤ i ∧ i < (resCs nv nr ss).2.2.2
  | [], _, nr, i => by simp [resCs]
  | s :: ss, nv, nr, i => by
    have h1 := resC_rows s nv nr i
    have h2 := resCs_rows ss (resC nv nr s).2.2.1 (resC nv nr s).2.2.2 i
    have m1 := resC_mono s nv nr
    have m2 := resCs_mono ss (resC nv nr s).2.2.1 (resC nv nr s).2.2.2
    show i ∈ ((resC nv nr s).2.1 ++ (resCs (resC nv nr s).2.2.1 (resC nv nr s).2.2.2 ss).2.1).map (·.1) ↔ nr ≤ i ∧ i < (resCs (resC nv nr s).2.2.1 (resC nv nr s).2.2.2 ss).2.2.2
    rw [List.map_append, List.mem_append, h1, h2]
    omega
theorem resR_rows (s : RS) (nv nr : Nat) (i : Nat) : i ∈ (resR nv nr s).2.1.map (·.1) ↔ nr ≤ i ∧ i < (resR nv nr s).2.2.2 := by
  cases s with
  | c s => exact resC_rows s nv nr i
  | t ss => exact resCs_rows ss nv nr i

theorem sliceOf_src {row : Nat → Option Rw} {x : At} {r : Nat} {k : Rw} {lo len : Ex} (h : sliceOf row (.at x) = some (some (r, k), lo, len)) : row r = some k := by
  cases x <;> simp [sliceOf] at h
  case vec q =>
    split at h
    · rename_i k' hk'; split at h <;> simp at h
      obtain ⟨⟨rfl, rfl⟩, _⟩ := h; exact hk'
    · cases h
  case sl q es l1 l2 =>
    split at h
    · rename_i k' hk'; split at h <;> simp at h
      obtain ⟨⟨rfl, rfl⟩, _⟩ := h; exact hk'
    · cases h
theorem argOf_fz {row : Nat → Option Rw} {s : AS} {x : At} {e : Ex} {fr : List (Nat × Option Rw)} (h : argOf row s x = some (e, fr)) : FzOk row fr := by
  cases s with
  | ck k =>
    simp only [argOf, Option.map_eq_some_iff, Prod.mk.injEq] at h
    obtain ⟨e', h1, rfl, rfl⟩ := h
    exact fun q z hz => by cases hz
  | row el ks agg =>
    simp only [argOf] at h
    split at h
    · rename_i r k lo len hs
      have hk := sliceOf_src hs
      split at h
      · simp only [Option.some.injEq, Prod.mk.injEq] at h
        obtain ⟨rfl, rfl⟩ := h
        intro q z hz
        cases hown : k.own
        · rw [hown] at hz; simp at hz
        · rw [hown] at hz; simp at hz; obtain ⟨rfl, rfl⟩ := hz; exact ⟨k, hk, rfl⟩
      · cases h
    · cases h; exact fun q z hz => by cases hz
    · cases h
theorem argsOf_fz {row : Nat → Option Rw} : ∀ {ss : List AS} {xs : List At} {es : List Ex} {fr : List (Nat × Option Rw)}, argsOf row ss xs = some (es, fr) → FzOk row fr
  | [], [], es, fr, h => by simp [argsOf] at h; obtain ⟨rfl, rfl⟩ := h; exact fun q z hz => by cases hz
  | s :: ss, x :: xs, es, fr, h => by
    simp only [argsOf] at h
    split at h
    · rename_i h1 h2; cases h; exact (argOf_fz h1).append (argsOf_fz h2)
    · cases h
  | [], _ :: _, _, _, h => by simp [argsOf] at h
  | _ :: _, [], _, _, h => by simp [argsOf] at h
theorem argC_fz {row : Nat → Option Rw} {s : CS} {x : SV} {es : List Ex} {fr : List (Nat × Option Rw)} (h : argC row s x = some (es, fr)) : FzOk row fr := by
  unfold argC at h
  split at h
  · simp only [Option.map_eq_some_iff, Prod.mk.injEq] at h
    obtain ⟨⟨e, r⟩, h1, h2, rfl⟩ := h
    exact argOf_fz h1
  · exact argsOf_fz h
  · cases h
theorem argsC_fz {row : Nat → Option Rw} : ∀ {ss : List CS} {xs : List SV} {es : List Ex} {fr : List (Nat × Option Rw)}, argsC row ss xs = some (es, fr) → FzOk row fr
  | [], [], es, fr, h => by simp [argsC] at h; obtain ⟨rfl, rfl⟩ := h; exact fun q z hz => by cases hz
  | s :: ss, x :: xs, es, fr, h => by
    simp only [argsC] at h
    split at h
    · rename_i h1 h2; cases h; exact (argC_fz h1).append (argsC_fz h2)
    · cases h
  | [], _ :: _, _, _, h => by simp [argsC] at h
  | _ :: _, [], _, _, h => by simp [argsC] at h

theorem appStr_call {s x : Operand} {t t' : TypeId} {r : OpR} (h : appStr P rd s x t t' = some r) : r.call = none := by
  unfold appStr at h
  split at h <;> (try (cases h; done))
  split at h <;> (try (cases h; done))
  split at h <;> (try (cases h; done))
  split at h <;> (try (cases h; done))
  · split at h <;> (try (cases h; done))
    split at h <;> (try (cases h; done))
    cases h; rfl
  · cases h; rfl
/-- A call by its contract. -/
theorem call_ok (g : Good B w0 σ c a w) (hrd : RdOk σ c a rd) {pl : List TypeId} {cons : List Con} {Γ : Nat → List Sc → Option (List Sc)} (hΓ : ∀ con ∈ cons, ∀ w, Below B w0 w → con.holdsAt P (Γ con.f) w)
    {r : OpR} (h : symOp P pl cons o rd = some r) {f : Nat} {es : List Ex} {n : Nat} (hc : r.call = some (f, es, n)) {rs : List Sc} (hF : Γ f (es.map (Ex.ev c.ρ)) = some rs) (hρ : ∀ i, i < rs.length → c.ρ.getD (rd.nv + i) (.i 0) = rs.getD i (.i 0))
    (hR : ∀ i, i ∈ r.nr → c.R i = none) :
    ∀ (K : Act → World → Prop) (Q : Exit → Act → World → Prop), (∀ v w' c', c.le c' → c'.β = c.β → (∀ i, i ∉ r.nr → c'.R i = c.R i) → r.val.rel c' v →
      Good B w0 { σ with blks := putBlks σ.blks r.blks, rows := putRows σ.rows r.rows } c' a w' → K (a.put o.dst v) w') → o.wp P a w K Q := by
  unfold symOp at h
  split at h
  rotate_left
  · split at h
    · split at h
      · rename_i h1; cases h; rw [h1] at hc; cases hc
      · cases h
    · cases h
  rename_i cl ho
  have hnone : ∀ {x : Option OpR}, x = some r → (∀ y, x = some y → y.call = none) → False := fun h1 h2 => by rw [h2 r h1] at hc; cases hc
  unfold symCall at h
  split at h
  · split at h
    · split at h
      · cases h; cases hc
      · simp only [Option.map_eq_some_iff] at h; obtain ⟨_, _, rfl⟩ := h; cases hc
      · cases h; cases hc
      · cases h
    · cases h
  · split at h
    · split at h
      · simp only [Option.map_eq_some_iff] at h; obtain ⟨_, _, rfl⟩ := h; cases hc
      · cases h
    · cases h
  · split at h
    · split at h
      · simp only [Option.map_eq_some_iff] at h; obtain ⟨_, _, rfl⟩ := h; cases hc
      · cases h
    · cases h
  · -- an append is no call
    exfalso
    split at h <;> (try (cases h; done))
    split at h
    rotate_left
    · have hc2 := appStr_call h
      rw [hc2] at hc; cases hc
    split at h <;> (try (cases h; done))
    split at h <;> (try (cases h; done))
    split at h <;> (try (cases h; done))
    split at h <;> (try (cases h; done))
    · split at h <;> (try (cases h; done))
      split at h <;> (try (cases h; done))
      cases h; cases hc
    · cases h; cases hc
  · rename_i fo hcal
    split at h
    rotate_left
    · cases h
    rename_i gg hfo
    split at h
    rotate_left
    · cases h
    rename_i con hfind
    split at h
    rotate_left
    · cases h
    rename_i es' fr hargs
    simp only [Option.some.injEq] at h
    subst h
    simp only [Option.some.injEq, Prod.mk.injEq] at hc
    obtain ⟨rfl, rfl, hn⟩ := hc
    have hmem := List.mem_of_find?_eq_some hfind
    have hcf : con.f = gg := Nat.eq_of_beq_eq_true (by simpa using List.find?_some hfind)
    have hcon := hΓ con hmem w g.below
    have hfv := hrd.ev fo
    rw [hfo] at hfv
    obtain ⟨ns, hns, hfv⟩ := hfv
    have : ns = [] := by cases ns with | nil => rfl | cons => simp at hns
    subst this
    -- the rows handed on
    have hfz0 : FzOk σ.row fr := fun q z hz => by
      obtain ⟨k, hk, e⟩ := argsC_fz hargs q z hz
      exact ⟨k, hrd.row _ _ hk, e⟩
    obtain ⟨g1, hfr⟩ := Good.freezes g hfz0
    have hFz : Fz rd.row { σ with rows := putRows σ.rows fr } fr := fun q k hk hor => by
      rw [hfr q k (hrd.row _ _ hk)]
      by_cases hq : q ∈ fr.map (·.1)
      · rw [if_pos hq]
      · rw [if_neg hq]
        rcases hor with ho' | hm
        · congr 1; cases k; simp at ho'; subst ho'; rfl
        · exact absurd (List.mem_map_of_mem (f := (·.1)) hm) hq
    obtain ⟨hrel, _⟩ := argsC_spec g1 hargs hFz (vs := cl.args.toList.map a.eval) (by simp) (fun i h1 h2 => by simpa using hrd.ev _)
    rw [← hcf] at hF
    have hcon := hcon (cl.args.toList.map a.eval) _ rs (csRelL_mono (fun _ _ => trivial) hrel) hF
    rw [hcf] at hcon
    have harr : (cl.args.toList.map a.eval).toArray = cl.args.map a.eval := by apply Array.ext'; simp
    rw [harr] at hcon
    intro K Q hK
    have post : ∀ v w', Below w.heap.size w w' ∧ rsRel w' (fun p => w.heap.size ≤ p ∨ csBlkL con.args (cl.args.toList.map a.eval) (es'.map (Ex.ev c.ρ)) p) con.res v rs → K (a.put o.dst v) w' := by
      rintro v w' ⟨hb, hres⟩
      have hok : ∀ p, (w.heap.size ≤ p ∨ csBlkL con.args (cl.args.toList.map a.eval) (es'.map (Ex.ev c.ρ)) p) → okIn B { σ with rows := putRows σ.rows fr } c p := by
        rintro p (hp | hp)
        · exact ⟨fun x hx => by have := (g1.lt_blk hx).2; omega, .inl (Nat.le_trans g.hB hp)⟩
        · exact csBlkL_ok hrel hp
      obtain ⟨c', d1, d2, d3, d4, d5⟩ := resR_spec (nv := rd.nv) (nr := rd.nr) (g1.call hb) hok hρ hres (fun i h1 h2 => hR i (by simp only; exact (resR_rows _ _ _ i).2 ⟨h1, h2⟩))
      refine hK v w' c' d5 d1 (fun i hi => d2 i ?_) d3 ?_
      · have : ¬ (rd.nr ≤ i ∧ i < (resR rd.nv rd.nr con.res).2.2.2) := fun hh => hi ((resR_rows _ _ _ i).2 hh)
        omega
      · rw [putRows_append]; exact d4
    rcases hcon with ⟨hrun, hcalls⟩ | ⟨v, w', hrun, hpost⟩
    · have hexec : (execOp a.eval o).run P w = .ok (.enter gg (cl.args.map a.eval)) w := by
        simp [execOp, ho, resolve, hcal, hfv, Deferred.ofValue, invoke, hrun]
      unfold Oper.wp
      rw [hexec]
      refine hcalls.mono ?_
      rintro e w' ⟨v, rfl, hpost⟩
      exact post v w' hpost
    · have hexec : (execOp a.eval o).run P w = .ok (.value v) w' := by
        simp [execOp, ho, resolve, hcal, hfv, Deferred.ofValue, invoke, hrun]
      unfold Oper.wp
      rw [hexec]
      exact post v w' hpost
  · cases h
end
end Go.Proofs.YtkjgcalkkfgmlaaDoor
namespace Go.Proofs.YtkjgcalkkfgmlaaDoor
open Go.RowKit

abbrev Nx := List (List Sc → Prop)
/-- What a tree says of its leaves. -/
def T.wp (Γ : Nat → List Sc → Option (List Sc)) {L : Type} : T L → List Sc → Nx → (L → List Sc → Nx → Prop) → Prop
  | .leaf x, ρ, N, Φ => Φ x ρ N
  | .fail _, _, _, _ => False
  | .ite c p q, ρ, N, Φ => if (c.ev ρ).bool = true then p.wp Γ ρ N Φ else q.wp Γ ρ N Φ
  | .need c k, ρ, N, Φ => (c.ev ρ).bool = true ∧ k.wp Γ ρ N Φ
  | .call f es n k, ρ, N, Φ => ∃ rs, Γ f (es.map (Ex.ev ρ)) = some rs ∧ rs.length = n ∧ k.wp Γ (ρ ++ rs) N Φ
  | .loop ini body, ρ, N, Φ => ∃ (I : List Sc → Prop) (μ : List Sc → Nat), I (ini.map (Ex.ev ρ)) ∧
      ∀ vals, vals.length = ini.length → I vals → body.wp Γ (ρ ++ vals) (N ++ [fun v => I v ∧ μ v < μ vals]) Φ
  | .next l vs, ρ, N, _ => match N[l]? with | some J => J (vs.map (Ex.ev ρ)) | none => False

section
variable {Γ : Nat → List Sc → Option (List Sc)} {L M : Type}
theorem T.wp_mono : ∀ {t : T L} {ρ : List Sc} {N : Nx} {Φ Ψ : L → List Sc → Nx → Prop}, t.wp Γ ρ N Φ → (∀ x r n, Φ x (ρ ++ r) (N ++ n) → Ψ x (ρ ++ r) (N ++ n)) → t.wp Γ ρ N Ψ
  | .leaf x, ρ, N, Φ, Ψ, h, k => by have := k x [] []; simp only [List.append_nil] at this; exact this h
  | .fail _, _, _, _, _, h, _ => h
  | .ite c p q, ρ, N, Φ, Ψ, h, k => by
    simp only [T.wp] at h ⊢
    split
    · rename_i hc; rw [if_pos hc] at h; exact T.wp_mono h k
    · rename_i hc; rw [if_neg hc] at h; exact T.wp_mono h k
  | .need c t, ρ, N, Φ, Ψ, h, k => ⟨h.1, T.wp_mono h.2 k⟩
  | .call f es n t, ρ, N, Φ, Ψ, ⟨rs, h1, h2, h3⟩, k => ⟨rs, h1, h2, T.wp_mono h3 (fun x r n h => by rw [List.append_assoc] at h ⊢; exact k x _ n h)⟩
  | .loop ini t, ρ, N, Φ, Ψ, ⟨I, μ, h1, h2⟩, k => ⟨I, μ, h1, fun vals hl hI => T.wp_mono (h2 vals hl hI) (fun x r n h => by rw [List.append_assoc, List.append_assoc] at h ⊢; exact k x _ _ h)⟩
  | .next l vs, _, _, _, _, h, _ => h
theorem T.wp_bind : ∀ {t : T L} {f : L → T M} {ρ : List Sc} {N : Nx} {Φ : M → List Sc → Nx → Prop}, (t.bind f).wp Γ ρ N Φ → t.wp Γ ρ N (fun x ρ' N' => (f x).wp Γ ρ' N' Φ)
  | .leaf x, f, ρ, N, Φ, h => h
  | .fail _, _, _, _, _, h => h
  | .ite c p q, f, ρ, N, Φ, h => by
    simp only [T.wp, T.bind] at h ⊢
    split
    · rename_i hc; rw [if_pos hc] at h; exact T.wp_bind h
    · rename_i hc; rw [if_neg hc] at h; exact T.wp_bind h
  | .need c t, f, ρ, N, Φ, h => ⟨h.1, T.wp_bind h.2⟩
  | .call g es n t, f, ρ, N, Φ, ⟨rs, h1, h2, h3⟩ => ⟨rs, h1, h2, T.wp_bind h3⟩
  | .loop ini t, f, ρ, N, Φ, ⟨I, μ, h1, h2⟩ => ⟨I, μ, h1, fun vals hl hI => T.wp_bind (h2 vals hl hI)⟩
  | .next l vs, _, _, _, _, h => h
end

/-- The place of a run: its state says what is in the world; what lay before (c0) has its place still. -/
structure Ct.sub (c0 c : Ct) : Prop where
  K : c.K = c0.K
  β : ∀ i n, c0.β i = some n → c.β i = some n
  R : ∀ i v, c0.R i = some v → c.R i = some v
theorem Ct.sub.refl (c : Ct) : c.sub c := ⟨rfl, fun _ _ h => h, fun _ _ h => h⟩
theorem Ct.sub.trans {x y z : Ct} (h : x.sub y) (k : y.sub z) : x.sub z := ⟨k.K.trans h.K, fun i n e => k.β i n (h.β i n e), fun i n e => k.R i n (h.R i n e)⟩
theorem Ct.le.sub {c c' : Ct} (h : c.le c') : c.sub c' := ⟨h.K, h.β, h.R⟩
structure Is (B : Nat) (w0 : World) (c0 c : Ct) (σ : St) (ρ : List Sc) (N : Nx) (a : Act) (w : World) : Prop where
  sub : c0.sub c
  env : c.ρ = ρ
  good : Good B w0 σ c a w
  fresh : Fresh σ c
  nv : σ.nv = ρ.length
  lv : σ.lv = N.length

theorem putBlks_length : ∀ (r : List (Nat × Option Bk)) (l : List (Option Bk)), l.length ≤ (putBlks l r).length ∧ ∀ x ∈ r, x.1 < (putBlks l r).length
  | [], l => ⟨Nat.le_refl _, fun _ h => by cases h⟩
  | (i, v) :: r, l => by
    have ih := putBlks_length r (setN none l i v)
    have hl := setN_length none l i v
    refine ⟨by simp only [putBlks]; omega, fun x hx => ?_⟩
    rcases List.mem_cons.1 hx with rfl | hx
    · simp only [putBlks]; omega
    · exact ih.2 x hx
theorem putRows_length : ∀ (r : List (Nat × Option Rw)) (l : List (Option Rw)), l.length ≤ (putRows l r).length ∧ ∀ x ∈ r, x.1 < (putRows l r).length
  | [], l => ⟨Nat.le_refl _, fun _ h => by cases h⟩
  | (i, v) :: r, l => by
    have ih := putRows_length r (setN none l i v)
    have hl := setN_length none l i v
    refine ⟨by simp only [putRows]; omega, fun x hx => ?_⟩
    rcases List.mem_cons.1 hx with rfl | hx
    · simp only [putRows]; omega
    · exact ih.2 x hx

section
variable {P : Program} {B : Nat} {w0 : World} {σ : St} {c c0 : Ct} {a : Act} {w : World}

/-- The new blocks and rows of an operation stand among what it writes. -/
def Owned (r : OpR) : Prop := (∀ i ∈ r.nb, ∃ k, (i, k) ∈ r.blks) ∧ (∀ i ∈ r.nr, i ∈ r.rows.map (·.1))
theorem fresh_after (hf : Fresh σ c) {c' : Ct} {r : OpR} (ho : Owned r) (hβ : ∀ i, i ∉ r.nb → c'.β i = c.β i) (hR : ∀ i, i ∉ r.nr → c'.R i = c.R i) (dst : Option Tmp) : Fresh (σ.after dst r) c' := by
  have l1 := putBlks_length r.blks σ.blks
  have l2 := putRows_length r.rows σ.rows
  refine ⟨fun p hp => ?_, fun q hq => ?_⟩
  · have hp : (putBlks σ.blks r.blks).length ≤ p := hp
    rw [hβ p (fun hm => by
      obtain ⟨k, hk⟩ := ho.1 p hm
      have := l1.2 _ hk
      simp only at this; omega)]
    exact hf.β p (by omega)
  · have hq : (putRows σ.rows r.rows).length ≤ q := hq
    rw [hR q (fun hm => by
      obtain ⟨x, hx, e⟩ := List.mem_map.1 (ho.2 q hm)
      have := l2.2 _ hx
      rw [e] at this; omega)]
    exact hf.R q (by omega)
end
end Go.Proofs.YtkjgcalkkfgmlaaDoor
