import Derived.Test.YtbffakgmlgimeaaQClass
import Derived.Test.YtbffakgmlgimeaaQOrd
import Derived.Test.YtbffakgmlgimeaaP6
import Derived.Test.YtbffakgmlgimeaaP8
/- arrange.wrong, Order. -/
namespace Go.Proofs.Ytbffakgmlgimeaa.Pure
open Go.RowKit Go.Proofs.Ytbffakgmlgimeaa.P Go.Proofs.YtbffakgmlgimeaaW.PrintWords Go.Proofs.YtbffakgmlgimeaaW.PrintLast
set_option linter.unusedVariables false
set_option linter.unusedSimpArgs false
theorem wrong_ev (a b : Int) : Ev (fun k => arrange_wrong.f k a b) (wrg dCls a b) := by
 unfold arrange_wrong.f wrg
 refine Ev.bind (class_ev b) ?_
 refine ev_ite (fun h => ?_) (fun h => ev_some (by simp; omega))
 refine Ev.bind (class_ev a) (ev_some ?_)
 simp [h]
theorem rd_mid2 (p : List Int) (a r : Int) (s : List Int) : rd (p ++ a :: r :: s) ((p.length : Int) + 1) = r := by
 have := rd_mid (p ++ [a]) r s
 simpa using this
theorem w_up (n : Nat) (h : n < 1000000000) : wrap64 ((n : Int) + 1) = (n : Int) + 1 := w64 (by omega) (by omega)
theorem ord_up (p q suf : List Int) (hq : q ≠ []) (hs : isOrd dCls (p ++ q) = true) (hb : p.length + q.length < 1000000) (R : List Int)
  (h : Ev (fun k => arrange_Order.l0 k (p ++ q ++ suf) ((p.length + q.length : Nat) : Int)) R) : Ev (fun k => arrange_Order.l0 k (p ++ q ++ suf) (p.length : Int)) R := by
 induction q generalizing p with
 | nil => exact absurd rfl hq
 | cons b q ih =>
  refine Ev.step (fun k => by simp only [arrange_Order.l0]; rfl) ?_
  refine ev_neg (by simp only [List.length_append, List.length_cons]; omega) ?_
  simp only [List.length_cons] at hb h
  have next : Ev (fun k => arrange_Order.l0 k (p ++ b :: q ++ suf) (wrap64 ((p.length : Int) + 1))) R := by
   rw [w_up _ (by omega)]
   cases q with
   | nil => simpa using h
   | cons c q =>
    simp only [List.length_cons] at hb
    have := ih (p ++ [b]) (by simp) (by simpa using hs) (by simp; omega) (by
     have e : (((p ++ [b]).length + (c :: q).length : Nat) : Int) = ((p.length + ((c :: q).length + 1) : Nat) : Int) := by simp; omega
     rw [e]
     simpa using h)
    simpa using this
  refine ev_ite (fun g => ?_) (fun _ => next)
  rcases List.eq_nil_or_concat p with rfl | ⟨p', a, rfl⟩
  ·simp at g
  ·rw [List.concat_eq_append] at *
   have hpl : (p' ++ [a]).length = p'.length + 1 := by simp
   have e1 : wrap64 (((p' ++ [a]).length : Int) - 1) = (p'.length : Int) := by
    rw [w64 (by omega) (by omega)]; omega
   rw [e1]
   refine ev_pos (by omega) (ev_pos (by simp; omega) (ev_pos (by omega) (ev_pos (by simp; omega) ?_)))
   have e2 : rd (p' ++ [a] ++ b :: q ++ suf) (p'.length : Int) = a := by
    have := rd_mid p' a (b :: q ++ suf); simpa using this
   have e3 : rd (p' ++ [a] ++ b :: q ++ suf) ((p' ++ [a]).length : Int) = b := by
    have := rd_mid (p' ++ [a]) b (q ++ suf); simpa using this
   rw [e2, e3]
   refine Ev.bind (wrong_ev a b) (ev_neg ?_ next)
   have h1 := isOrd_take (p' ++ [a, b]) q (by simpa using hs)
   rw [isOrd_snoc] at h1
   simp only [Bool.and_eq_true, Bool.not_eq_true'] at h1
   simp [h1.2]
theorem ord_down (x : List Int) (r : Int) (suf : List Int) (hs : srtR dCls x) (hb : x.length < 1000000 - 1) (R : List Int)
  (h : Ev (fun k => arrange_Order.l0 k ((insR dCls r x).reverse ++ suf) ((x.length + 1 : Nat) : Int)) R) : Ev (fun k => arrange_Order.l0 k (x.reverse ++ r :: suf) (x.length : Int)) R := by
 induction x generalizing suf with
 | nil =>
  refine Ev.step (fun k => by simp only [arrange_Order.l0]; rfl) ?_
  refine ev_neg (by simp <;> omega) (ev_neg (by simp) ?_)
  rw [w_up _ (by simp)]
  simpa [insR] using h
 | cons a t ih =>
  simp only [List.length_cons] at hb h
  have ht : srtR dCls t := by
   cases t with
   | nil => trivial
   | cons b t => exact hs.2
  refine Ev.step (fun k => by simp only [arrange_Order.l0]; rfl) ?_
  have el : (((a :: t).length : Nat) : Int) = (t.length : Int) + 1 := by simp
  have ell : (((a :: t).reverse ++ r :: suf).length : Int) = (t.length : Int) + 2 + suf.length := by simp; omega
  refine ev_neg (by rw [el, ell]; omega) (ev_pos (by rw [el]; omega) ?_)
  have e1 : wrap64 ((((a :: t).length : Nat) : Int) - 1) = (t.length : Int) := by
   rw [el, w64 (by omega) (by omega)]; omega
  rw [e1]
  refine ev_pos (by omega) (ev_pos (by rw [ell]; omega) (ev_pos (by omega) (ev_pos (by rw [el, ell]; omega) ?_)))
  have e2 : rd ((a :: t).reverse ++ r :: suf) (t.length : Int) = a := by
   have := rd_mid t.reverse a (r :: suf); simpa using this
  have e3 : rd ((a :: t).reverse ++ r :: suf) (((a :: t).length : Nat) : Int) = r := by
   have := rd_mid (t.reverse ++ [a]) r suf; simpa using this
  rw [e2, e3]
  refine Ev.bind (wrong_ev a r) ?_
  rw [insR_cons] at h
  refine ev_ite (fun g => ?_) (fun g => ?_)
  ·rw [if_pos g] at h
   have e4 : (((a :: t).reverse ++ r :: suf).set (t.length : Int).toNat r).set (((a :: t).length : Nat) : Int).toNat a = t.reverse ++ r :: a :: suf := by
    simp [List.set_append]
   rw [e4]
   refine ih (a :: suf) ht (by omega) ?_
   have hl := insR_length (c := dCls) r t
   have h2 : srtR dCls (a :: insR dCls r t) := by
    have := insR_srt (c := dCls) r (a :: t) hs
    rwa [insR_cons, if_pos g] at this
   have := ord_up (insR dCls r t).reverse [a] suf (by simp) (by
    have := srtR_isOrd _ h2
    simpa using this) (by simp [hl]; omega) R (by
     have e5 : (((insR dCls r t).reverse.length + [a].length : Nat) : Int) = ((t.length + 1 + 1 : Nat) : Int) := by simp [hl]
     rw [e5]
     simpa using h)
   rw [List.length_reverse, hl] at this
   simpa using this
  ·rw [if_neg g] at h
   rw [w_up _ (by simp; omega)]
   simpa using h
theorem ord_loop (x suf : List Int) (hs : srtR dCls x) (hb : x.length + suf.length < 900000) (hx : 0 < x.length) :
  Ev (fun k => arrange_Order.l0 k (x.reverse ++ suf) (x.length : Int)) (ordR dCls suf x).reverse := by
 induction suf generalizing x with
 | nil =>
  refine Ev.step (fun k => by simp only [arrange_Order.l0]; rfl) ?_
  exact ev_pos (by simp) (ev_some (by simp [ordR]))
 | cons r t ih =>
  simp only [List.length_cons] at hb
  have hl := insR_length (c := dCls) r x
  refine ord_down x r t hs (by omega) _ ?_
  have := ih (insR dCls r x) (insR_srt r x hs) (by omega) (by omega)
  rw [hl] at this
  exact this
theorem order_ev (l : List Int) (h : l.length < 900000) : Ev (fun k => arrange_Order.f k l) (aOrd dCls l) := by
 unfold arrange_Order.f
 refine ev_bind0 (a := l) (by unfold slices_Clone_rune_rune.f; rw [if_pos (by omega)]) ?_
 cases l with
 | nil =>
  refine Ev.step (fun k => by simp only [arrange_Order.l0]; rfl) ?_
  exact ev_pos (by simp) (ev_some rfl)
 | cons a t =>
  have := ord_loop [a] t trivial (by simpa [Nat.add_comm] using h) (by simp)
  exact this
end Go.Proofs.Ytbffakgmlgimeaa.Pure
