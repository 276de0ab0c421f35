/-
  Chapter 25: how the arguments come in; which declarations are small. 
-/
import Derived.Test.YtpmplppkjedpiaaOpnS
import Derived.Test.YtpmplppkjedpiaaM25g
import Derived.Test.YtpmplppkjedpiaaA25
namespace Go.Proofs.Ytpmplppkjedpiaa
set_option linter.unusedSimpArgs false
set_option linter.unusedVariables false

theorem args4 {w : World} {ok : Nat → Prop} {s s1 s2 s3 : CS} {v v1 v2 v3 : Value} {l l1 l2 l3 : List Sc} (h : csRel w ok s v l) (h1 : csRel w ok s1 v1 l1) (h2 : csRel w ok s2 v2 l2) (h3 : csRel w ok s3 v3 l3) : csRelL w ok [s, s1, s2, s3] [v, v1, v2, v3] (l ++ (l1 ++ (l2 ++ l3))) := ⟨l, l1 ++ (l2 ++ l3), rfl, h, args3 h1 h2 h3⟩
theorem small_F (x0 x1 x2 x3 : Sc) (st : ByteArray) (u v : DD) : ∃ b : Bool, k_simulatorlaw25_small.F [x0, x1, x2, x3, .s st, .i u.op, .i u.a, .i u.b, .i u.n, .l (u.vs.map .i), .l (u.ws.map .i), .i v.op, .i v.a, .i v.b, .i v.n, .l (v.vs.map .i), .l (v.ws.map .i)] = some [.b b] ∧ (b = true → st.size ≤ 17592186044416 ∧ u.small ∧ v.small) := by
  refine ⟨decide ((u.vs.length : Int) ≤ 100) && (decide ((u.ws.length : Int) ≤ 100) && (decide ((v.vs.length : Int) ≤ 100) && (decide ((v.ws.length : Int) ≤ 100) && decide ((st.size : Int) ≤ 100)))), ?_, fun h => ?_⟩
  · simp only [k_simulatorlaw25_small_F, tk_simulatorlaw25_small, List.length_map, Go.Proofs.Ytpmplppkjedpiaa.T.den, Ex.ev, U1.ev, U2.ev, U3.ev, gam, List.map, List.getD_cons_zero, List.getD_cons_succ, List.length, List.cons_append, List.nil_append, if_true, int_n, bool_n, list_n, Sc.str_s, Nat.reduceEqDiff, if_false, List.getElem?_cons_zero, List.getElem?_cons_succ]
    by_cases h1 : (u.vs.length : Int) ≤ 100 <;> by_cases h2 : (u.ws.length : Int) ≤ 100 <;> by_cases h3 : (v.vs.length : Int) ≤ 100 <;> by_cases h4 : (v.ws.length : Int) ≤ 100 <;> simp [h1, h2, h3, h4]
  · simp only [Bool.and_eq_true, decide_eq_true_eq] at h
    exact ⟨by omega, ⟨by omega, by omega⟩, ⟨by omega, by omega⟩⟩
theorem open_decl {e f : TypeId} {ys : List Sc} (h : fitAL [.ck .str, .ck (.int .i64), .row e [.int .i64, .int .i64] true, .ck (.int .i64), .ck .str, .ck (.int .i64), .ck (.int .i64), .ck (.int .i64), .ck (.int .i64), .row f [.int .i64] false, .row f [.int .i64] false, .ck (.int .i64), .ck (.int .i64), .ck (.int .i64), .ck (.int .i64), .row f [.int .i64] false, .row f [.int .i64] false] ys) :
    ∃ (x0 x1 x2 x3 : Sc) (st : ByteArray) (u v : DD), ys = [x0, x1, x2, x3, .s st, .i u.op, .i u.a, .i u.b, .i u.n, .l (u.vs.map .i), .l (u.ws.map .i), .i v.op, .i v.a, .i v.b, .i v.n, .l (v.vs.map .i), .l (v.ws.map .i)] := by
  obtain ⟨n0, r, rfl, _, h⟩ := fitAL_str h
  obtain ⟨n1, r, rfl, _, h⟩ := fitAL_int h
  obtain ⟨n2, r, rfl, hz⟩ := fitAL_row h
  obtain ⟨n3, r, rfl, _, h⟩ := fitAL_int hz
  obtain ⟨st, r, rfl, hs, h⟩ := fitAL_str h
  obtain ⟨a1, r, rfl, _, h⟩ := fitAL_int h
  obtain ⟨a2, r, rfl, _, h⟩ := fitAL_int h
  obtain ⟨a3, r, rfl, _, h⟩ := fitAL_int h
  obtain ⟨a4, r, rfl, _, h⟩ := fitAL_int h
  obtain ⟨a5, r, rfl, _, l5, h⟩ := fitAL_ints h
  obtain ⟨a6, r, rfl, _, l6, h⟩ := fitAL_ints h
  obtain ⟨b1, r, rfl, _, h⟩ := fitAL_int h
  obtain ⟨b2, r, rfl, _, h⟩ := fitAL_int h
  obtain ⟨b3, r, rfl, _, h⟩ := fitAL_int h
  obtain ⟨b4, r, rfl, _, h⟩ := fitAL_int h
  obtain ⟨b5, r, rfl, _, m5, h⟩ := fitAL_ints h
  obtain ⟨b6, r, rfl, _, m6, h⟩ := fitAL_ints h
  obtain rfl := fitAL_nil h
  exact ⟨_, _, _, _, st, ⟨a1, a2, a3, a4, a5, a6⟩, ⟨b1, b2, b3, b4, b5, b6⟩, rfl⟩
theorem open_stream {ys : List Sc} (h : fitsL [.int .u64, .int .i64, .bool] ys) : ∃ k p m, ys = [.i k, .i p, .b m] := by
  obtain ⟨k, r, rfl, _, h⟩ := fitsL_int h
  obtain ⟨p, r, rfl, _, h⟩ := fitsL_int h
  obtain ⟨m, r, rfl, hz⟩ := fitsL_bool h
  obtain rfl := fitsL_nil hz
  exact ⟨k, p, m, rfl⟩
theorem next_ready {st : ByteArray} {u v : DD} {k p : Int} {m : Bool} {now : Int} {down : Bool} (h : (nextT st u v k p m now down).e = 0) : now < (nextT st u v k p m now down).x := by
  unfold nextT at *
  split at h
  · rename_i c; exact absurd h c
  · rename_i c
    rw [if_neg c]
    generalize drawT (if down = true then v else u) k p m = D at *
    unfold nxtD at *
    by_cases d : D.e = 0
    · rw [if_neg (fun z => z d)]
      simp only; split <;> omega
    · rw [if_pos d] at h; exact absurd h d
theorem crs_form (st : ByteArray) (u v : DD) (k p : Int) (m : Bool) (til : Int) : ∀ (f i : Nat), (∀ j, j < i → (sqN st u v k p m (j + 1)).e = 0 ∧ ¬ til < (sqN st u v k p m (j + 1)).x) →
    ((crsN st u v k p m til f i).2 ≠ 0 ∧ (crsN st u v k p m til f i).1 = []) ∨ ∃ n, n ≤ i + f ∧ crsN st u v k p m til f i = (timesN st u v k p m n, 0) ∧ (∀ j, j < n → (sqN st u v k p m (j + 1)).e = 0 ∧ ¬ til < (sqN st u v k p m (j + 1)).x) ∧ (sqN st u v k p m (n + 1)).e = 0 ∧ til < (sqN st u v k p m (n + 1)).x
  | f, i, h => by
    by_cases c1 : (sqN st u v k p m (i + 1)).e = 0
    rotate_left
    · rw [crsN_0 c1]; exact .inl ⟨c1, rfl⟩
    by_cases c2 : til < (sqN st u v k p m (i + 1)).x
    · rw [crsN_1 c1 c2]; exact .inr ⟨i, by omega, rfl, h, c1, c2⟩
    cases f with
    | zero => rw [crsN_2 c1 c2]; exact .inl ⟨by decide, rfl⟩
    | succ f =>
      rw [crsN_3 c1 c2]
      rcases crs_form st u v k p m til f (i + 1) (fun j hj => by
        by_cases e : j = i
        · subst e; exact ⟨c1, c2⟩
        · exact h j (by omega)) with a | ⟨n, a, b⟩
      · exact .inl a
      · exact .inr ⟨n, by omega, b⟩
theorem course_form (st : ByteArray) (u v : DD) (k p : Int) (m : Bool) (til : Int) : ((courseV st u v k p m til).2 ≠ 0 ∧ (courseV st u v k p m til).1 = []) ∨ (rdyV st u v til = 0 ∧ ∃ n, n ≤ 1000 ∧ courseV st u v k p m til = (timesN st u v k p m n, 0) ∧ (∀ j, j < n → (sqN st u v k p m (j + 1)).e = 0 ∧ ¬ til < (sqN st u v k p m (j + 1)).x) ∧ (sqN st u v k p m (n + 1)).e = 0 ∧ til < (sqN st u v k p m (n + 1)).x) := by
  unfold courseV
  by_cases c : rdyV st u v til = 0
  · rw [if_neg (fun h => h c)]
    rcases crs_form st u v k p m til 1000 0 (fun j hj => by omega) with a | ⟨n, a, b⟩
    · exact .inl a
    · exact .inr ⟨c, n, by omega, b⟩
  · rw [if_pos c]; exact .inl ⟨c, rfl⟩
theorem course_len (st : ByteArray) (u v : DD) (k p : Int) (m : Bool) (til : Int) : (courseV st u v k p m til).1.length ≤ 1000 := by
  rcases course_form st u v k p m til with ⟨_, h⟩ | ⟨_, n, h, e, _⟩
  · rw [h]; simp
  · rw [e]; simp only [times_len]; exact h
end Go.Proofs.Ytpmplppkjedpiaa
