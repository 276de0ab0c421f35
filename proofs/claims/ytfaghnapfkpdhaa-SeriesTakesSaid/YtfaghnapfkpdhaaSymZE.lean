/-
  Functions that call themselves.
-/
import Derived.Test.YtfaghnapfkpdhaaSymZD
namespace Go.Proofs.Ytfaghnapfkpdhaa
open Go.RowKit

/-- What a function that calls itself returns within so many calls. -/
noncomputable def knownRec {P : Program} (mixed : P.follows .mixedOrders = true) (L : List (Known P)) (con : Con) (hd : (con.f :: L.map (·.con.f)).Nodup) (hs : List Hint) (pl : List TypeId) (hpl : PlainTy P pl) (ins : List FuncId) (hins : ∀ f, hasN ins f = true → ∀ args w, (callFunc f args).run P w = .ok (.enter f args) w)
    (d : Nat) (hcall : ∀ args w, (callFunc con.f args).run P w = .ok (.enter con.f args) w) (t : T (List Ex)) (ht : tree ⟨P, con :: L.map (·.con), hs, pl, ins⟩ d con = t) : Nat → {k : Known P // k.con = con}
  | 0 => ⟨⟨con, fun _ => none, fun _ _ _ _ _ h => by cases h⟩, rfl⟩
  | n + 1 => ⟨known mixed ((knownRec mixed L con hd hs pl hpl ins hins d hcall t ht n).1 :: L)
      (by rw [List.map_cons, (knownRec mixed L con hd hs pl hpl ins hins d hcall t ht n).2]; exact hd) hs pl hpl ins hins d con hcall t
      (by rw [List.map_cons, (knownRec mixed L con hd hs pl hpl ins hins d hcall t ht n).2]; exact ht), rfl⟩

/-- A rule for loops: what is left to do grows less. -/
theorem loop_rule {S : Type} {g : (List Sc → Option (List Sc)) → List Sc → Option (List Sc)} (inv : S → List Sc) (F : S → Option (List Sc)) (ok : S → Prop) (m : S → Nat)
    (h : ∀ s rec, ok s → (∀ s', ok s' → m s' < m s → rec (inv s') = F s') → g rec (inv s) = F s) : ∀ (fuel : Nat) (s : S), ok s → m s < fuel → loopN g fuel (inv s) = F s
  | 0, _, _, hm => absurd hm (Nat.not_lt_zero _)
  | n + 1, s, ho, hm => h s _ ho fun s' ho' hm' => loop_rule inv F ok m h n s' ho' (by omega)
theorem loop_rounds {S : Type} {g : (List Sc → Option (List Sc)) → List Sc → Option (List Sc)} (inv : S → List Sc) (F : S → Option (List Sc)) (ok : S → Prop) (m : S → Nat)
    (h : ∀ s rec, ok s → (∀ s', ok s' → m s' < m s → rec (inv s') = F s') → g rec (inv s) = F s) (s : S) (ho : ok s) (hm : m s < 340282366920938463463374607431768211456) : loopN g rounds (inv s) = F s :=
  loop_rule inv F ok m h rounds s ho (by unfold rounds; omega)
end Go.Proofs.Ytfaghnapfkpdhaa
