import Derived.Test.YtpihglokjcbjkaaQClassRef
import Derived.Test.YtpihglokjcbjkaaQOrd
import Derived.Test.YtpihglokjcbjkaaT9
/- The reference's Order: runs, each ordered by classes; it is the order of the program. -/
namespace Go.Proofs.Ytpihglokjcbjkaa.Pure
open Go.RowKit Go.Proofs.Ytpihglokjcbjkaa.P Go.Proofs.YtpihglokjcbjkaaW.PrintWords Go.Proofs.YtpihglokjcbjkaaW.PrintLast
set_option linter.unusedVariables false
set_option linter.unusedSimpArgs false
section
variable {c : Int → Int}
theorem insR_stop {a : Int} (h : c a = 0) (r : Int) (m acc : List Int) : insR c r (m ++ a :: acc) = insR c r m ++ a :: acc := by
 induction m with
 | nil =>
  show insR c r (a :: acc) = [r] ++ a :: acc
  rw [insR_cons, if_neg (by unfold wrg; rw [h]; simp; omega)]
  rfl
 | cons b t ih =>
  show insR c r (b :: (t ++ a :: acc)) = insR c r (b :: t) ++ a :: acc
  rw [insR_cons, insR_cons, ih]
  split <;> rfl
theorem ordR_stop {a : Int} (h : c a = 0) (t m acc : List Int) : ordR c t (m ++ a :: acc) = ordR c t m ++ a :: acc := by
 induction t generalizing m with
 | nil => rfl
 | cons b t ih => rw [ordR_cons, ordR_cons, insR_stop h, ih]
theorem insR_zero {a : Int} (h : c a = 0) (l : List Int) : insR c a l = a :: l := by
 cases l with
 | nil => rfl
 | cons b t => rw [insR_cons, if_neg (by unfold wrg; rw [h]; simp)]
theorem aOrd_zero {a : Int} (h : c a = 0) (x t : List Int) : aOrd c (x ++ a :: t) = aOrd c x ++ a :: aOrd c t := by
 unfold aOrd
 rw [ordR_append, ordR_cons, insR_zero h]
 have := ordR_stop h t [] (ordR c x [])
 rw [List.nil_append] at this
 rw [this]
 simp
theorem insR_past (r : Int) (A B : List Int) (hA : ∀ a ∈ A, wrg c a r = true) (hB : ∀ b ∈ B, wrg c b r = false) : insR c r (A ++ B) = A ++ r :: B := by
 induction A with
 | nil =>
  cases B with
  | nil => rfl
  | cons b t =>
   show insR c r (b :: t) = _
   rw [insR_cons, if_neg (by rw [hB b (by simp)]; simp)]
   rfl
 | cons a t ih =>
  show insR c r (a :: (t ++ B)) = _
  rw [insR_cons, if_pos (hA a (by simp)), ih (fun x hx => hA x (by simp [hx]))]
  rfl
end
def passC (w : List Int) (n : Int) : List Int := w.filter (fun a => decide (dCls a = n))
def srtC (w : List Int) : List Int := passC w 0 ++ passC w 8 ++ passC w 202 ++ passC w 220 ++ passC w 230
theorem dCls_five (r : Int) : dCls r = 0 ∨ dCls r = 8 ∨ dCls r = 202 ∨ dCls r = 220 ∨ dCls r = 230 := by
 unfold dCls
 repeat' split
 all_goals simp
theorem passC_snoc (w : List Int) (r n : Int) : passC (w ++ [r]) n = passC w n ++ (if dCls r = n then [r] else []) := by
 unfold passC
 rw [List.filter_append]
 by_cases h : dCls r = n <;> simp [h]
theorem passC_mem {w : List Int} {n x : Int} (h : x ∈ passC w n) : dCls x = n := by
 unfold passC at h
 simpa using (List.mem_filter.1 h).2
theorem aOrd_snoc (l : List Int) (r : Int) : aOrd dCls (l ++ [r]) = (insR dCls r (aOrd dCls l).reverse).reverse := by
 unfold aOrd
 rw [ordR_snoc, List.reverse_reverse]
theorem wrg_yes {a r : Int} (h1 : 0 < dCls r) (h2 : dCls r < dCls a) : wrg dCls a r = true := by unfold wrg; simp [h1, h2]
theorem wrg_no {a r : Int} (h2 : dCls a ≤ dCls r) : wrg dCls a r = false := by unfold wrg; simp; omega
theorem marks_srt (w : List Int) (h : ∀ x ∈ w, 0 < dCls x) : aOrd dCls w = passC w 8 ++ passC w 202 ++ passC w 220 ++ passC w 230 := by
 suffices H : ∀ (n : Nat) (w : List Int), w.length = n → (∀ x ∈ w, 0 < dCls x) → aOrd dCls w = passC w 8 ++ passC w 202 ++ passC w 220 ++ passC w 230 from H _ w rfl h
 clear h w
 intro n
 induction n with
 | zero => intro w hw _; obtain rfl := List.eq_nil_of_length_eq_zero hw; rfl
 | succ n ih =>
  intro w' hw' h
  rcases List.eq_nil_or_concat w' with rfl | ⟨w, r, rfl⟩
  ·simp at hw'
  rw [List.concat_eq_append] at *
  have ih := ih w (by simpa using hw') (fun x hx => h x (by simp [hx]))
  have hr := h r (by simp)
  rw [aOrd_snoc, ih]
  simp only [passC_snoc, List.reverse_append]
  have m8 : ∀ x ∈ (passC w 8).reverse, dCls x = 8 := fun x hx => passC_mem (List.mem_reverse.1 hx)
  have m2 : ∀ x ∈ (passC w 202).reverse, dCls x = 202 := fun x hx => passC_mem (List.mem_reverse.1 hx)
  have m0 : ∀ x ∈ (passC w 220).reverse, dCls x = 220 := fun x hx => passC_mem (List.mem_reverse.1 hx)
  have m3 : ∀ x ∈ (passC w 230).reverse, dCls x = 230 := fun x hx => passC_mem (List.mem_reverse.1 hx)
  rcases dCls_five r with e | e | e | e | e
  ·omega
  ·rw [show (passC w 230).reverse ++ ((passC w 220).reverse ++ ((passC w 202).reverse ++ (passC w 8).reverse)) = ((passC w 230).reverse ++ (passC w 220).reverse ++ (passC w 202).reverse) ++ (passC w 8).reverse from by simp]
   rw [insR_past r _ _ (fun a ha => wrg_yes hr (by
    simp only [List.mem_append] at ha
    rcases ha with (ha | ha) | ha
    ·rw [m3 a ha]; omega
    ·rw [m0 a ha]; omega
    ·rw [m2 a ha]; omega)) (fun a ha => wrg_no (by rw [m8 a ha]; omega))]
   simp [e]
  ·rw [show (passC w 230).reverse ++ ((passC w 220).reverse ++ ((passC w 202).reverse ++ (passC w 8).reverse)) = ((passC w 230).reverse ++ (passC w 220).reverse) ++ ((passC w 202).reverse ++ (passC w 8).reverse) from by simp]
   rw [insR_past r _ _ (fun a ha => wrg_yes hr (by
    simp only [List.mem_append] at ha
    rcases ha with ha | ha
    ·rw [m3 a ha]; omega
    ·rw [m0 a ha]; omega)) (fun a ha => wrg_no (by
    simp only [List.mem_append] at ha
    rcases ha with ha | ha
    ·rw [m2 a ha]; omega
    ·rw [m8 a ha]; omega))]
   simp [e]
  ·rw [insR_past r _ _ (fun a ha => wrg_yes hr (by rw [m3 a ha]; omega)) (fun a ha => wrg_no (by
    simp only [List.mem_append] at ha
    rcases ha with ha | ha | ha
    ·rw [m0 a ha]; omega
    ·rw [m2 a ha]; omega
    ·rw [m8 a ha]; omega))]
   simp [e]
  ·have := insR_past r [] ((passC w 230).reverse ++ ((passC w 220).reverse ++ ((passC w 202).reverse ++ (passC w 8).reverse))) (fun _ h => by cases h) (fun a ha => wrg_no (by
    simp only [List.mem_append] at ha
    rcases ha with ha | ha | ha | ha
    ·rw [m3 a ha]; omega
    ·rw [m0 a ha]; omega
    ·rw [m2 a ha]; omega
    ·rw [m8 a ha]; omega))
   rw [List.nil_append] at this
   rw [this]
   simp [e]
theorem passC_none {w : List Int} (h : ∀ x ∈ w, 0 < dCls x) : passC w 0 = [] := by
 unfold passC
 rw [List.filter_eq_nil_iff]
 intro x hx
 have := h x hx
 simp
 omega
theorem srt_good (w : List Int) (h : ∀ x ∈ w.tail, 0 < dCls x) : srtC w = aOrd dCls w := by
 cases w with
 | nil => rfl
 | cons a t =>
  have ht : ∀ x ∈ t, 0 < dCls x := h
  by_cases e : dCls a = 0
  ·have := aOrd_zero e [] t
   rw [List.nil_append] at this
   rw [this, marks_srt t ht]
   unfold srtC
   have h0 : passC (a :: t) 0 = [a] := by
    have := passC_none ht
    unfold passC at this ⊢
    rw [List.filter_cons_of_pos (by simpa using e), this]
   have hn : ∀ n : Int, n ≠ 0 → passC (a :: t) n = passC t n := by
    intro n hn
    unfold passC
    rw [List.filter_cons_of_neg (by simp [e]; omega)]
   rw [h0, hn 8 (by omega), hn 202 (by omega), hn 220 (by omega), hn 230 (by omega)]
   simp [aOrd, ordR]
  ·have ha : ∀ x ∈ a :: t, 0 < dCls x := by
    intro x hx
    rcases List.mem_cons.1 hx with rfl | hx
    ·rcases dCls_five x with g | g | g | g | g <;> omega
    ·exact ht x hx
   rw [marks_srt _ ha]
   unfold srtC
   rw [passC_none ha]
   rfl
def runC (cur : List Int) : List Int → List (List Int)
 | [] => if cur = [] then [] else [cur]
 | a :: t => if dCls a = 0 then (if cur = [] then runC [a] t else cur :: runC [a] t) else runC (cur ++ [a]) t
theorem runC_ord (cur l : List Int) (h : ∀ x ∈ cur.tail, 0 < dCls x) : (runC cur l).flatMap srtC = aOrd dCls (cur ++ l) := by
 induction l generalizing cur with
 | nil =>
  unfold runC
  by_cases e : cur = []
  ·rw [if_pos e, e]; rfl
  ·rw [if_neg e]
   simp [srt_good cur h]
 | cons a t ih =>
  unfold runC
  by_cases e : dCls a = 0
  ·rw [if_pos e]
   have h1 := ih [a] (by simp)
   by_cases g : cur = []
   ·rw [if_pos g, h1, g]; rfl
   ·rw [if_neg g, List.flatMap_cons, h1, srt_good cur h]
    have h2 := aOrd_zero e cur t
    have h3 := aOrd_zero e [] t
    rw [h2]
    rw [List.nil_append] at h3
    show _ ++ aOrd dCls (a :: t) = _
    rw [h3]
    simp [aOrd, ordR]
  ·rw [if_neg e, ih (cur ++ [a]) (by
    intro x hx
    cases cur with
    | nil => simp at hx
    | cons b u =>
     simp only [List.cons_append, List.tail_cons, List.mem_append, List.mem_singleton] at hx
     rcases hx with hx | rfl
     ·exact h x hx
     ·rcases dCls_five x with g | g | g | g | g <;> omega)]
   simp
theorem runC_size (cur l : List Int) : (runC cur l).length ≤ l.length + 1 ∧ ((runC cur l).map List.length).sum = cur.length + l.length := by
 induction l generalizing cur with
 | nil =>
  unfold runC
  split
  ·rename_i e; simp [e]
  ·simp
 | cons a t ih =>
  unfold runC
  split
  ·have := ih [a]
   split
   ·rename_i e
    simp only [List.length_cons, List.length_nil] at this ⊢
    rw [e]; simp; omega
   ·simp only [List.length_cons, List.length_nil, List.map_cons, List.sum_cons] at this ⊢
    omega
  ·have := ih (cur ++ [a])
   simp only [List.length_append, List.length_cons, List.length_nil] at this ⊢
   omega
theorem runs_loop (X : List (List Int)) (cur pre suf : List Int) (hb : pre.length + suf.length < 900000) (hX : X.length ≤ pre.length) (hc : cur.length ≤ pre.length) :
  Ev (fun k => toponymref06_Runs.l0 k (pre ++ suf) X cur (pre.length : Int)) (X ++ runC cur suf) := by
 induction suf generalizing X cur pre with
 | nil =>
  refine Ev.step (fun k => by simp only [toponymref06_Runs.l0]; rfl) ?_
  refine ev_neg (by simp) ?_
  unfold runC
  refine ev_ite (fun h => ev_pos (by simp at hb; omega) (ev_some ?_)) (fun h => ev_some ?_)
  ·rw [if_neg (by rintro rfl; simp at h)]
  ·rw [if_pos (List.eq_nil_of_length_eq_zero (by omega))]; simp
 | cons a t ih =>
  refine Ev.step (fun k => by simp only [toponymref06_Runs.l0]; rfl) ?_
  refine ev_pos (mid_lt pre a t) (ev_pos (by omega) ?_)
  rw [rd_mid]
  simp only [List.length_cons] at hb
  refine Ev.bind (rclass_ev a) ?_
  have next : ∀ (X' : List (List Int)) (cur' : List Int), X'.length ≤ pre.length + 1 → cur'.length ≤ pre.length + 1 → Ev (fun k => toponymref06_Runs.l0 k (pre ++ a :: t) X' cur' (wrap64 ((pre.length : Int) + 1))) (X' ++ runC cur' t) := by
   intro X' cur' h1 h2
   rw [w64 (by omega) (by omega), mid_snoc pre, ← len_snoc pre a]
   exact ih X' cur' (pre ++ [a]) (by simp; omega) (by simpa using h1) (by simpa using h2)
  refine ev_ite (fun h => ?_) (fun h => ?_)
  ·refine ev_ite (fun g => ?_) (fun g => ?_)
   ·refine ev_pos (by omega) (ev_pos (by simp) ?_)
    refine ev_eq (next (X ++ [cur]) [a] (by simp; omega) (by simp)) ?_
    rw [show runC cur (a :: t) = cur :: runC [a] t from by
     conv => lhs; unfold runC
     rw [if_pos h, if_neg (by rintro rfl; simp at g)]]
    simp
   ·have e : cur = [] := List.eq_nil_of_length_eq_zero (by omega)
    subst e
    refine ev_pos (by simp) (ev_eq (next X [a] (by omega) (by simp)) ?_)
    rw [show runC [] (a :: t) = runC [a] t from by
     conv => lhs; unfold runC
     rw [if_pos h, if_pos rfl]]
  ·refine ev_pos (by omega) (ev_eq (next X (cur ++ [a]) (by omega) (by simp; omega)) ?_)
   rw [show runC cur (a :: t) = runC (cur ++ [a]) t from by
     conv => lhs; unfold runC
     rw [if_neg h]]
theorem rdR_mid (pre : List (List Int)) (a : List Int) (suf : List (List Int)) : rd_L1 (pre ++ a :: suf) (pre.length : Int) = a := by
 simp [rd_L1, List.getD_eq_getElem?_getD]
theorem pass_loop (R : List (List Int)) (V : List Int) (w : List Int) (i n s : Int) (h0 : 0 ≤ i) (h1 : i < (R.length : Int)) (hw : rd_L1 R i = w) (hs : toponymref06_step.f n = some s) (hn : 0 ≤ n ∧ n ≤ 230 ∧ 0 ≤ s ∧ s ≤ 200) (out pre suf : List Int) (hp : w = pre ++ suf) (hb : pre.length + suf.length < 900000) (ho : out.length + suf.length < 30000000)
  (h : Ev (fun k => toponymref06_Order.l1 k R (out ++ passC suf n) i (n + s)) V) : Ev (fun k => toponymref06_Order.l2 k R out i n (pre.length : Int)) V := by
 induction suf generalizing pre out with
 | nil =>
  refine Ev.step (fun k => by simp only [toponymref06_Order.l2]; rfl) ?_
  refine ev_pos h0 (ev_pos h1 ?_)
  rw [hw, hp]
  refine ev_neg (by simp) (ev_bind0 hs ?_)
  rw [w64 (by omega) (by omega)]
  simpa [passC] using h
 | cons a t ih =>
  refine Ev.step (fun k => by simp only [toponymref06_Order.l2]; rfl) ?_
  refine ev_pos h0 (ev_pos h1 ?_)
  rw [hw, hp]
  simp only [List.length_cons] at hb ho
  refine ev_pos (mid_lt pre a t) (ev_pos (by omega) ?_)
  rw [rd_mid]
  refine Ev.bind (rclass_ev a) ?_
  rw [w64 (by omega) (by omega), ← len_snoc pre a]
  refine ev_ite (fun g => ?_) (fun g => ?_)
  ·refine ev_pos (by omega) (ih (out ++ [a]) (pre ++ [a]) (by rw [hp]; simp) (by simp; omega) (by simp; omega) ?_)
   unfold passC at h ⊢
   rw [List.filter_cons_of_pos (by simpa using g)] at h
   simpa using h
  ·refine ih out (pre ++ [a]) (by rw [hp]; simp) (by simp; omega) (by omega) ?_
   unfold passC at h ⊢
   rw [List.filter_cons_of_neg (by simpa using g)] at h
   exact h
theorem class_round (R : List (List Int)) (V : List Int) (w : List Int) (i n s m : Int) (h0 : 0 ≤ i) (h1 : i < (R.length : Int)) (hw : rd_L1 R i = w) (hs : toponymref06_step.f n = some s) (hn : 0 ≤ n ∧ n ≤ 230 ∧ 0 ≤ s ∧ s ≤ 200) (hm : m = n + s) (out : List Int) (hb : w.length < 900000) (ho : out.length + w.length < 30000000)
  (h : Ev (fun k => toponymref06_Order.l1 k R (out ++ passC w n) i m) V) : Ev (fun k => toponymref06_Order.l1 k R out i n) V := by
 refine Ev.step (fun k => by simp only [toponymref06_Order.l1]; rfl) ?_
 refine ev_pos (by omega) ?_
 subst hm
 exact pass_loop R V w i n s h0 h1 hw hs hn out [] w rfl (by simpa using hb) ho h
theorem passC_length (w : List Int) (n : Int) : (passC w n).length ≤ w.length := List.length_filter_le _ _
theorem order_runs (preR sufR : List (List Int)) (out : List Int) (hb : preR.length + sufR.length < 900000) (hl : ∀ w ∈ sufR, w.length < 1500) (ho : out.length + 8000 * sufR.length < 20000000) :
  Ev (fun k => toponymref06_Order.l0 k (preR ++ sufR) out (preR.length : Int)) (out ++ sufR.flatMap srtC) := by
 induction sufR generalizing preR out with
 | nil =>
  refine Ev.step (fun k => by simp only [toponymref06_Order.l0]; rfl) ?_
  exact ev_neg (by simp) (ev_some (by simp))
 | cons w t ih =>
  refine Ev.step (fun k => by simp only [toponymref06_Order.l0]; rfl) ?_
  simp only [List.length_cons] at hb ho
  refine ev_pos (by simp; omega) ?_
  have hw := hl w (by simp)
  have h0 : (0 : Int) ≤ (preR.length : Int) := by omega
  have h1 : (preR.length : Int) < ((preR ++ w :: t).length : Int) := by simp; omega
  have hr := rdR_mid preR w t
  have p0 := passC_length w 0
  have p1 := passC_length w 8
  have p2 := passC_length w 202
  have p3 := passC_length w 220
  have p4 := passC_length w 230
  refine class_round _ _ w _ 0 8 8 h0 h1 hr rfl (by omega) rfl out (by omega) (by omega) ?_
  refine class_round _ _ w _ 8 194 202 h0 h1 hr rfl (by omega) rfl _ (by omega) (by simp only [List.length_append]; omega) ?_
  refine class_round _ _ w _ 202 18 220 h0 h1 hr rfl (by omega) rfl _ (by omega) (by simp only [List.length_append]; omega) ?_
  refine class_round _ _ w _ 220 10 230 h0 h1 hr rfl (by omega) rfl _ (by omega) (by simp only [List.length_append]; omega) ?_
  refine class_round _ _ w _ 230 1 231 h0 h1 hr rfl (by omega) rfl _ (by omega) (by simp only [List.length_append]; omega) ?_
  refine Ev.step (fun k => by simp only [toponymref06_Order.l1]; rfl) ?_
  refine ev_neg (by omega) ?_
  rw [w64 (by omega) (by omega)]
  have e : out ++ passC w 0 ++ passC w 8 ++ passC w 202 ++ passC w 220 ++ passC w 230 = out ++ srtC w := by simp [srtC]
  rw [e]
  have hsz : (srtC w).length ≤ 5 * w.length := by
   unfold srtC
   simp only [List.length_append]
   omega
  have := ih (preR ++ [w]) (out ++ srtC w) (by simp; omega) (fun x hx => hl x (by simp [hx])) (by simp only [List.length_append]; omega)
  simpa using this
theorem le_sum_of {x : Nat} {l : List Nat} (h : x ∈ l) : x ≤ l.sum := by
 induction l with
 | nil => cases h
 | cons a t ih =>
  rw [List.sum_cons]
  rcases List.mem_cons.1 h with rfl | h
  ·omega
  ·have := ih h
   omega
theorem rorder_ev (l : List Int) (h : l.length < 1500) : Ev (fun k => toponymref06_Order.f k l) (aOrd dCls l) := by
 unfold toponymref06_Order.f
 have h1 := runs_loop [] [] [] l (by simp; omega) (by simp) (by simp)
 have h2 := runC_size [] l
 refine Ev.bind (a := runC [] l) (by unfold toponymref06_Runs.f; simpa using h1) ?_
 have hw : ∀ w ∈ runC [] l, w.length < 1500 := by
  intro w hw
  have : w.length ≤ ((runC [] l).map List.length).sum := le_sum_of (List.mem_map.2 ⟨w, hw, rfl⟩)
  have h3 := h2.2
  simp only [List.length_nil] at h3
  omega
 have h3 := order_runs [] (runC [] l) [] (by simp; omega) hw (by simp; omega)
 have h4 := runC_ord [] l (by simp)
 rw [h4] at h3
 simpa using h3
end Go.Proofs.Ytpihglokjcbjkaa.Pure
