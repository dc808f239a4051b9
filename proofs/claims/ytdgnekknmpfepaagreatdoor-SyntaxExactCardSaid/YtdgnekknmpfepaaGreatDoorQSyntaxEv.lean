import Derived.Test.YtdgnekknmpfepaaGreatDoorQSyntax
import Derived.Test.YtdgnekknmpfepaaGreatDoorP6
import Derived.Test.YtdgnekknmpfepaaGreatDoorP7
/- syntax.span, numeric; dn.Word: what they tell of a text's bytes. -/
namespace Go.Proofs.YtdgnekknmpfepaaGreatDoor.Pure
open Go.RowKit Go.Proofs.YtdgnekknmpfepaaGreatDoor.P Go.Proofs.YtdgnekknmpfepaaGreatDoorW.PrintWords Go.Proofs.YtdgnekknmpfepaaGreatDoorW.PrintLast
set_option linter.unusedVariables false
set_option linter.unusedSimpArgs false
def spanV (lo hi : Int) : List Int → Int → Bool × Int
 | [], n => (true, n)
 | c :: t, n => if c < lo ∨ c > hi then (false, 0) else spanV lo hi t (if 48 ≤ c ∧ c ≤ 57 then n + 1 else n)
theorem spanV_fst (lo hi : Int) : ∀ (l : List Int) (n : Int), (spanV lo hi l n).1 = true ↔ ∀ c ∈ l, lo ≤ c ∧ c ≤ hi
 | [], n => by simp [spanV]
 | c :: t, n => by
  rw [spanV]
  split
  ·rename_i h
   constructor
   ·intro e; cases e
   ·intro e
    have := e c List.mem_cons_self
    omega
  ·rename_i h
   rw [spanV_fst lo hi t]
   constructor
   ·intro e x hx
    rcases List.mem_cons.1 hx with rfl | hx
    ·omega
    ·exact e x hx
   ·intro e x hx
    exact e x (List.mem_cons_of_mem _ hx)
theorem span_loop {S : ByteArray} (lo hi : Int) (hs : S.size ≤ 1000) : ∀ (suf pre : List Int) (n : Int), ints S = pre ++ suf → 0 ≤ n → n ≤ pre.length → Ev (fun k => syntax_span.l0 k S lo hi n (pre.length : Int)) (spanV lo hi suf n)
 | [], pre, n, h, h0, h1 => by
  have hl := congrArg List.length h
  rw [ints_length, List.append_nil] at hl
  exact Ev.step (fun k => by simp only [syntax_span.l0]; rfl) (ev_neg (by omega) (Ev.now _))
 | c :: t, pre, n, h, h0, h1 => by
  have hl := congrArg List.length h
  rw [ints_length, List.length_append, List.length_cons] at hl
  have hb : bt S (pre.length : Int) = c := bt_mid h
  have h' : ints S = (pre ++ [c]) ++ t := by rw [h]; simp
  have hn : ((pre ++ [c]).length : Int) = (pre.length : Int) + 1 := len_snoc pre c
  have out : Ev (fun k => syntax_span.j1 k S lo hi n (pre.length : Int) c true) (false, 0) := Ev.step (fun k => by simp only [syntax_span.j1]; rfl) (ev_pos (c := true = true) rfl (Ev.now _))
  refine Ev.step (fun k => by simp only [syntax_span.l0]; rfl) (ev_pos (by omega) (ev_pos (by omega) ?_))
  rw [hb]
  by_cases c1 : c < lo
  ·refine ev_pos c1 ?_
   rw [spanV, if_pos (.inl c1)]
   exact out
  ·refine ev_neg c1 ?_
   by_cases c2 : c > hi
   ·rw [decide_eq_true c2, spanV, if_pos (.inr c2)]
    exact out
   ·rw [decide_eq_false c2, spanV, if_neg (by omega)]
    refine Ev.step (fun k => by simp only [syntax_span.j1]; rfl) (ev_neg (c := false = true) (by decide) ?_)
    rw [w64 (x := (pre.length : Int) + 1) (by omega) (by omega), w64 (x := n + 1) (by omega) (by omega), ← hn]
    by_cases c3 : c ≥ 48
    ·refine ev_pos c3 ?_
     by_cases c4 : c ≤ 57
     ·refine ev_pos c4 ?_
      rw [if_pos ⟨c3, c4⟩]
      exact span_loop lo hi hs t _ _ h' (by omega) (by omega)
     ·refine ev_neg c4 ?_
      rw [if_neg (by omega)]
      exact span_loop lo hi hs t _ _ h' (by omega) (by omega)
    ·refine ev_neg c3 ?_
     rw [if_neg (by omega)]
     exact span_loop lo hi hs t _ _ h' (by omega) (by omega)
theorem span_ev {S : ByteArray} (lo hi : Int) (hs : S.size ≤ 1000) : Ev (fun k => syntax_span.f k S lo hi) (spanV lo hi (ints S) 0) := span_loop lo hi hs (ints S) [] 0 (by simp) (Int.le_refl 0) (Int.le_refl 0)
def numV (l : List Int) : Bool := l.all (fun c => decide (c = 32) || (decide (48 ≤ c) && decide (c ≤ 57)))
theorem num_loop {S : ByteArray} (hs : S.size ≤ 1000) : ∀ (suf pre : List Int), ints S = pre ++ suf → Ev (fun k => syntax_numeric.l0 k S (pre.length : Int)) (numV suf)
 | [], pre, h => by
  have hl := congrArg List.length h
  rw [ints_length, List.append_nil] at hl
  exact Ev.step (fun k => by simp only [syntax_numeric.l0]; rfl) (ev_neg (by omega) (Ev.now _))
 | c :: t, pre, h => by
  have hl := congrArg List.length h
  rw [ints_length, List.length_append, List.length_cons] at hl
  have hb : bt S (pre.length : Int) = c := bt_mid h
  have h' : ints S = (pre ++ [c]) ++ t := by rw [h]; simp
  have hn : ((pre ++ [c]).length : Int) = (pre.length : Int) + 1 := len_snoc pre c
  have ih := num_loop hs t (pre ++ [c]) h'
  rw [hn] at ih
  have e : numV (c :: t) = ((decide (c = 32) || (decide (48 ≤ c) && decide (c ≤ 57))) && numV t) := rfl
  refine Ev.step (fun k => by simp only [syntax_numeric.l0]; rfl) (ev_pos (by omega) (ev_pos (by omega) ?_))
  rw [hb, w64 (x := (pre.length : Int) + 1) (by omega) (by omega)]
  refine ev_ite (fun c1 => ev_eq ih (by rw [e]; simp [c1])) (fun c1 => ev_ite (fun c2 => ev_some (by rw [e]; simp [c1]; omega)) (fun c2 => ev_ite (fun c3 => ev_some (by rw [e]; simp [c1]; omega)) (fun c3 => ev_eq ih (by
   have h1 : decide (48 ≤ c) = true := decide_eq_true (by omega)
   have h2 : decide (c ≤ 57) = true := decide_eq_true (by omega)
   rw [e, h1, h2]
   simp))))
theorem num_ev {S : ByteArray} (hs : S.size ≤ 1000) : Ev (fun k => syntax_numeric.f k S) (numV (ints S)) := num_loop hs (ints S) [] (by simp)
end Go.Proofs.YtdgnekknmpfepaaGreatDoor.Pure
