/-
  What an operation does: rows that grow.
-/
import Derived.Test.YtfaghnapfkpdhaaSymH
namespace Go.Proofs.Ytfaghnapfkpdhaa
open Go.RowKit

theorem appE_ev (ρ : List Sc) : ∀ (y x : Ex), ((appE x y).ev ρ).list = (x.ev ρ).list ++ (y.ev ρ).list := by
  intro y
  induction y with
  | nil => intro x; simp [appE, Ex.ev]
  | o f p q _ ihq =>
    intro x
    by_cases hf : f = .cons
    · subst hf
      rw [appE, ihq, mk2_ev]
      simp [U2.ev, Ex.ev]
    · have : appE x (.o f p q) = match x with | .nil => .o f p q | x => mk2 .app x (.o f p q) := by
        cases f <;> first | rfl | exact absurd rfl hf
      rw [this]
      cases x <;> simp only [] <;> (try rw [mk2_ev]) <;> simp [U2.ev, Ex.ev]
  | _ => intro x; unfold appE; cases x <;> simp only [] <;> (try rw [mk2_ev]) <;> simp [U2.ev, Ex.ev]

section
variable {P : Program} {B : Nat} {w0 : World} {σ : St} {c : Ct} {a : Act} {w : World} {o : Oper} {rd : Rd}

theorem run_append_none (t ty e : TypeId) (i : TypeInfo) (ht : P.underlying t = some (.slice e)) (hi : P.info? e = some i) (ad : Option Addr) (n cap cc : Nat) (h : n ≤ cap) (w : World) :
    (Builtin.append_ #[t, t] ty #[.slice ad n cap, .slice none 0 cc]).run P w = .ok (.slice ad n cap) w := by
  cases ad <;> simp [Builtin.append_, run_underlying ht, sizeOf, typeInfo, hi, Builtin.lenOf, Builtin.firstCells, h, storeCells]

/-- An append, with the block in which the new row lies. -/
theorem run_append_blk (w : World) (base : Nat) (t ty e : TypeId) (i : TypeInfo) (z : Value) (size bytes : Nat) (ht : P.underlying t = some (.slice e)) (hi : P.info? e = some i) (hz : i.zero = some z)
    (hsize : i.size = size) (hby : i.bytes = bytes) (hzs : z.cells.size = size) (hsz : 0 < size)
    (v : Value) (n : Nat) (xs : List Value) (hown : w.ownsRow base e size v n xs)
    (ad : Addr) (m cc : Nat) (news : List Value) (hl : news.length = m * size) (hnews : ∀ j u, news[j]? = some u → w.cell? (ad.add j) = some u) (h1 : ∀ u ∈ news, u.oneCell' = true)
    (h63 : n + m ≤ maxLen) (hbytes : (n + m) * bytes ≤ 140737488355328) (hbase : base ≤ w.heap.size) :
    ∃ v' w', (Builtin.append_ #[t, t] ty #[v, .slice (some ad) m cc]).run P w = .ok v' w' ∧ w'.ownsRow base e size v' (n + m) (xs ++ news) ∧ w.grownBy w' v.ownBlock ∧
      (v'.ownBlock = v.ownBlock ∨ ∀ p, v'.ownBlock = some p → w.heap.size ≤ p) := by
  obtain ⟨v', w', hr, q1, q2, q3⟩ := run_append_own (P := P) w base t ty e i z size bytes ht hi hz hsize hby hzs hsz v n xs hown ad m cc news hl hnews h1 h63 hbytes hbase
  refine ⟨v', w', hr, q1, q2, ?_⟩
  subst hsize hby
  rcases hown.2 with ⟨rfl, rfl⟩ | ⟨p, cap, cur, rfl, hbg, hg, hnc, hcm, hcs, htake⟩
  · by_cases hm : m = 0
    · rw [q3.2 ⟨rfl, hm⟩]; exact .inl rfl
    · have h := run_append_nil (P := P) w t ty e i z ht hi hz ad m cc news hl hnews (by omega) (by simp only [maxLen] at h63; omega) (by have hb := hbytes; simp only [Nat.zero_add] at hb; omega)
      rw [h] at hr
      cases hr
      exact .inr fun q hq => by simp [Value.ownBlock] at hq; omega
  · by_cases hroom : n + m ≤ cap
    · have hfit : n * i.size + news.length ≤ cur.size := by rw [hl, hcs, ← Nat.add_mul]; exact Nat.mul_le_mul_right _ hroom
      have h := run_append_room (P := P) w t ty e i ht hi p n cap cur hg ad m cc news hl hnews h1 hroom hfit
      rw [h] at hr
      cases hr
      exact .inl rfl
    · have holds : ∀ j u, xs[j]? = some u → w.cell? ((⟨p, 0, none⟩ : Addr).add j) = some u := hown.cells (g := p) rfl
      have h := run_append_grow (P := P) w t ty e i z ht hi hz ⟨p, 0, none⟩ n cap xs hown.1 holds ad m cc news hl hnews (by omega) (by simp only [maxLen] at h63; omega) (growslice_fits (by omega) hbytes)
      rw [h] at hr
      cases hr
      exact .inr fun q hq => by simp [Value.ownBlock] at hq; omega
end
end Go.Proofs.Ytfaghnapfkpdhaa
