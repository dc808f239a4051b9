import Derived.Test.YtddmaioalilhmaaQBlankEv
import Derived.Test.YtddmaioalilhmaaQCharsRef
import Derived.Test.YtddmaioalilhmaaP9
import Derived.Test.YtddmaioalilhmaaP10
import Derived.Test.YtddmaioalilhmaaP11
import Derived.Test.YtddmaioalilhmaaP14
/- The reference's blanks are the program's. -/
namespace Go.Proofs.Ytddmaioalilhmaa.Pure
open Go.RowKit Go.Proofs.Ytddmaioalilhmaa.P Go.Proofs.YtddmaioalilhmaaW.PrintWords Go.Proofs.YtddmaioalilhmaaW.PrintLast
set_option linter.unusedVariables false
set_option linter.unusedSimpArgs false
theorem rk_ev (r : Int) : Ev (fun k => toponymref03_Kind.f k r) (cKind r) := by
  have := rkind_ev r
  rw [rKind_cKind] at this
  exact this
theorem lone_at (pre : List Int) (a : Int) (t : List Int) (hb : pre.length + t.length < 1000000) : Ev (fun k => toponymref11_lone.f k (pre ++ a :: t) (pre.length : Int)) (bareL mkc t) := by
  unfold toponymref11_lone.f
  have hl : ((pre ++ a :: t).length : Int) = pre.length + t.length + 1 := by simp; omega
  rw [w64 (x := ((pre ++ a :: t).length : Int) - 1) (by omega) (by omega), w64 (by omega) (by omega)]
  cases t with
  | nil => exact ev_pos (by simp) (ev_some rfl)
  | cons b t =>
    simp only [List.length_cons] at hb hl
    refine ev_neg (by omega) (ev_pos (by omega) (ev_pos (by omega) ?_))
    have e : rd (pre ++ a :: b :: t) ((pre.length : Int) + 1) = b := by
      have := rd_mid (pre ++ [a]) b t
      simpa using this
    rw [e]
    refine Ev.bind (rk_ev b) (ev_some ?_)
    unfold bareL mkc
    by_cases h : cKind b = 3 <;> simp [h]
theorem rspace_at (pre : List Int) (a : Int) (t : List Int) (hb : pre.length + t.length < 1000000) : Ev (fun k => toponymref11_Space.f k (pre ++ a :: t) (pre.length : Int)) (sp a && bareL mkc t) := by
  unfold toponymref11_Space.f
  have hlt := mid_lt pre a t
  refine ev_neg (by omega) (ev_neg (by omega) (ev_pos (by omega) (ev_pos hlt ?_)))
  rw [rd_mid]
  refine ev_ite (fun h => Ev.bind (lone_at pre a t hb) (ev_some (by simp [sp, h]))) (fun h => ev_some (by simp [sp, h]))
theorem rhyphen_at (pre : List Int) (a : Int) (t : List Int) (hb : pre.length + t.length < 1000000) : Ev (fun k => toponymref11_Hyphen.f k (pre ++ a :: t) (pre.length : Int)) (hyp a && bareL mkc t) := by
  unfold toponymref11_Hyphen.f
  have hlt := mid_lt pre a t
  refine ev_neg (by omega) (ev_neg (by omega) (ev_pos (by omega) (ev_pos hlt ?_)))
  rw [rd_mid]
  refine ev_ite (fun h => Ev.bind (lone_at pre a t hb) (ev_some (by simp [hyp, h]))) (fun h => ?_)
  refine ev_ite (fun h2 => Ev.bind (lone_at pre a t hb) (ev_some (by simp [hyp, h2]))) (fun h2 => ?_)
  refine ev_ite (fun h3 => Ev.bind (lone_at pre a t hb) (ev_some (by simp [hyp, h3]))) (fun h3 => ev_some (by simp [hyp, h, h2, h3]))
theorem rspace_ev (l : List Int) (i : Int) (hb : l.length < 900000) : Ev (fun k => toponymref11_Space.f k l i) (atS sp l i) := by
  by_cases h : 0 ≤ i ∧ i < (l.length : Int)
  · obtain ⟨pre, e, hp⟩ := split_at l i h.1 h.2
    have hl := congrArg List.length e
    simp only [List.length_append, List.length_cons] at hl
    have := rspace_at pre (l.getD i.toNat 0) (l.drop (i.toNat + 1)) (by omega)
    rw [← e, hp] at this
    unfold atS
    rw [if_pos h]
    exact this
  · unfold atS toponymref11_Space.f
    rw [if_neg h]
    refine ev_ite (fun h0 => ev_some rfl) (fun h0 => ?_)
    exact ev_pos (by omega) (ev_some rfl)
theorem rhyphen_ev (l : List Int) (i : Int) (hb : l.length < 900000) : Ev (fun k => toponymref11_Hyphen.f k l i) (atS hyp l i) := by
  by_cases h : 0 ≤ i ∧ i < (l.length : Int)
  · obtain ⟨pre, e, hp⟩ := split_at l i h.1 h.2
    have hl := congrArg List.length e
    simp only [List.length_append, List.length_cons] at hl
    have := rhyphen_at pre (l.getD i.toNat 0) (l.drop (i.toNat + 1)) (by omega)
    rw [← e, hp] at this
    unfold atS
    rw [if_pos h]
    exact this
  · unfold atS toponymref11_Hyphen.f
    rw [if_neg h]
    refine ev_ite (fun h0 => ev_some rfl) (fun h0 => ?_)
    exact ev_pos (by omega) (ev_some rfl)
theorem rfirm_ev (l : List Int) (hb : l.length < 900000) : Ev (fun k => toponymref11_Firm.f k l) (vFirm l) := by
  unfold toponymref11_Firm.f vFirm
  cases l with
  | nil => exact ev_neg (by simp) (ev_some rfl)
  | cons a t =>
    refine ev_pos (by simp <;> omega) (ev_pos (by simp <;> omega) ?_)
    have e : rd (a :: t) 0 = a := by
      have := rd_mid [] a t
      simpa using this
    rw [e]
    refine Ev.bind (rk_ev a) ?_
    refine ev_ite (fun h => ?_) (fun h => ?_)
    · rw [if_neg (by simp [bareL, mkc, h])]
      simp only [List.length_cons] at hb
      exact ev_bind0 rfl (ev_pos (by simp; omega) (ev_some rfl))
    · rw [if_pos (by simp [bareL, mkc, h])]
      exact Ev.now _
/-- What is told so far, and how many spaces are open; then the rest. -/
def inn (out : List Int) (o : Int) (T : List (Int × Bool)) : List Int :=
  if (wd T).1 = [] then (if out = [] then join2 (wd T).2 else out ++ tails (wd T).2)
  else if o > 0 ∧ out ≠ [] then out ++ 32 :: 32 :: ((wd T).1 ++ tails (wd T).2) else out ++ ((wd T).1 ++ tails (wd T).2)
theorem inn_sp (out : List Int) (o : Int) (h : 0 ≤ o) (a : Int) (T : List (Int × Bool)) : inn out o ((a, true) :: T) = inn out (o + 1) T := by
  unfold inn
  rw [wd_sp]
  unfold wds
  simp only [if_true]
  by_cases h1 : (wd T).1 = []
  · simp [h1]
  · by_cases h2 : out = []
    · simp [h1, h2, join2]
    · have : o + 1 > 0 := by omega
      simp [h1, h2, tails, this]
theorem inn_no (out : List Int) (o : Int) (a : Int) (T : List (Int × Bool)) : inn out o ((a, false) :: T) = inn ((if o > 0 ∧ out ≠ [] then out ++ [32, 32] else out) ++ [a]) 0 T := by
  unfold inn
  rw [wd_no]
  by_cases h1 : (wd T).1 = []
  · by_cases h2 : o > 0 ∧ out ≠ []
    · simp [h1, h2]
    · simp [h1, h2]
  · by_cases h2 : o > 0 ∧ out ≠ []
    · simp [h1, h2]
    · simp [h1, h2]
theorem inn_nil (out : List Int) (o : Int) : inn out o [] = out := by
  unfold inn
  simp only [wd, if_true]
  by_cases h : out = []
  · simp [h, join2]
  · simp [h, tails]
theorem inn_all (T : List (Int × Bool)) : inn [] 0 T = join2 (wds T) := by
  unfold inn wds
  by_cases h1 : (wd T).1 = []
  · simp [h1]
  · simp [h1, join2]
theorem inner_loop (out pre suf : List Int) (o : Int) (h0 : 0 ≤ o) (h1 : o ≤ pre.length) (hb : pre.length + suf.length < 200000) (ho : out.length ≤ 3 * pre.length) :
    Ev (fun k => toponymref11_inner.l0 k (pre ++ suf) out o (pre.length : Int)) (inn out o (tg mkc suf)) := by
  induction suf generalizing pre out o with
  | nil =>
    refine Ev.step (fun k => by simp only [toponymref11_inner.l0]; rfl) ?_
    exact ev_neg (by simp) (ev_some (inn_nil out o).symm)
  | cons a t ih =>
    refine Ev.step (fun k => by simp only [toponymref11_inner.l0]; rfl) ?_
    simp only [List.length_cons] at hb
    refine ev_pos (mid_lt pre a t) ?_
    refine Ev.bind (rspace_at pre a t (by omega)) ?_
    rw [rd_mid, w64 (x := (pre.length : Int) + 1) (by omega) (by omega)]
    have next : ∀ (out' : List Int) (o' : Int), 0 ≤ o' → o' ≤ pre.length + 1 → out'.length ≤ 3 * pre.length + 3 → Ev (fun k => toponymref11_inner.l0 k (pre ++ a :: t) out' o' ((pre.length : Int) + 1)) (inn out' o' (tg mkc t)) := by
      intro out' o' g0 g1 g2
      rw [mid_snoc pre, ← len_snoc pre a]
      exact ih out' (pre ++ [a]) o' g0 (by simp; omega) (by simp; omega) (by simp; omega)
    refine ev_ite (fun h => ?_) (fun h => ?_)
    · have e : tg mkc (a :: t) = (a, true) :: tg mkc t := by rw [← h]; rfl
      rw [e, inn_sp out o h0, w64 (by omega) (by omega)]
      exact next out (o + 1) (by omega) (by omega) (by omega)
    · have e : tg mkc (a :: t) = (a, false) :: tg mkc t := by
        have : (sp a && bareL mkc t) = false := by simpa using h
        rw [← this]; rfl
      rw [e, inn_no]
      refine ev_ite (fun g => ?_) (fun g => ?_)
      · refine ev_ite (fun g2 => ?_) (fun g2 => ?_)
        · have hne : out ≠ [] := by rintro rfl; simp at g2
          rw [if_pos ⟨g, hne⟩]
          refine ev_bind0 rfl (ev_pos (by simp; omega) (ev_bind0 rfl (ev_pos (by omega) (ev_pos (by simp; omega) ?_))))
          exact next _ 0 (by omega) (by omega) (by simp; omega)
        · have hne : out = [] := List.eq_nil_of_length_eq_zero (by omega)
          rw [if_neg (fun x => x.2 hne)]
          refine ev_pos (by omega) (ev_pos (by omega) ?_)
          exact next _ 0 (by omega) (by omega) (by simp; omega)
      · rw [if_neg (fun x => g x.1)]
        refine ev_pos (by omega) (ev_pos (by omega) ?_)
        exact next _ 0 (by omega) (by omega) (by simp; omega)
theorem inner_ev (l : List Int) (hb : l.length < 200000) : Ev (fun k => toponymref11_inner.f k l) (join2 (wds (tg mkc l))) := by
  unfold toponymref11_inner.f
  have := inner_loop [] [] l 0 (by omega) (by simp) (by simpa using hb) (by simp)
  rw [inn_all] at this
  simpa using this
theorem rvalue_ev (l : List Int) (hb : l.length < 100000) : Ev (fun k => toponymref11_Value.f k l) (vVal l) := by
  unfold toponymref11_Value.f
  have h1 := vFirm_length l
  have h2 := join2_size (vFirm l)
  refine ev_bind0 rfl (Ev.bind (rfirm_ev l (by omega)) (Ev.bind (inner_ev _ (by omega)) ?_))
  refine ev_pos (by simp; omega) (ev_bind0 rfl (ev_pos (by simp; omega) (ev_some ?_)))
  simp [vVal]
theorem rnum_loop (acc pre suf : List Int) (hb : pre.length + suf.length < 900000) (ha : acc.length ≤ pre.length) :
    Ev (fun k => toponymref11_Numeric.l0 k (pre ++ suf) acc (pre.length : Int)) (acc ++ leftS (S := sp) (mk := mkc) suf) := by
  induction suf generalizing pre acc with
  | nil =>
    refine Ev.step (fun k => by simp only [toponymref11_Numeric.l0]; rfl) ?_
    exact ev_neg (by simp) (ev_some (by simp [leftS, tgS]))
  | cons a t ih =>
    refine Ev.step (fun k => by simp only [toponymref11_Numeric.l0]; rfl) ?_
    simp only [List.length_cons] at hb
    refine ev_pos (mid_lt pre a t) ?_
    rw [rd_mid, leftS_cons, w64 (x := (pre.length : Int) + 1) (by omega) (by omega)]
    refine Ev.bind (rspace_at pre a t (by omega)) ?_
    have next : ∀ acc' : List Int, acc'.length ≤ pre.length + 1 → Ev (fun k => toponymref11_Numeric.l0 k (pre ++ a :: t) acc' ((pre.length : Int) + 1)) (acc' ++ leftS (S := sp) (mk := mkc) t) := by
      intro acc' h'
      rw [mid_snoc pre, ← len_snoc pre a]
      exact ih acc' (pre ++ [a]) (by simp; omega) (by simpa using h')
    refine ev_ite (fun h => ?_) (fun h => ?_)
    · rw [if_pos h]
      exact next acc (by omega)
    · rw [if_neg h]
      refine ev_pos (by omega) (ev_pos (by omega) ?_)
      have := next (acc ++ [a]) (by simp; omega)
      simpa using this
theorem rnumeric_ev (l : List Int) (hb : l.length < 900000) : Ev (fun k => toponymref11_Numeric.f k l) (leftS (S := sp) (mk := mkc) l) := by
  unfold toponymref11_Numeric.f
  have := rnum_loop [] [] l (by simpa using hb) (by simp)
  simpa using this
theorem rphone_loop (acc pre suf : List Int) (hb : pre.length + suf.length < 900000) (ha : acc.length ≤ pre.length) :
    Ev (fun k => toponymref11_Phone.l0 k (pre ++ suf) acc (pre.length : Int)) (acc ++ leftS (S := fun a => sp a || hyp a) (mk := mkc) suf) := by
  induction suf generalizing pre acc with
  | nil =>
    refine Ev.step (fun k => by simp only [toponymref11_Phone.l0]; rfl) ?_
    exact ev_neg (by simp) (ev_some (by simp [leftS, tgS]))
  | cons a t ih =>
    refine Ev.step (fun k => by simp only [toponymref11_Phone.l0]; rfl) ?_
    simp only [List.length_cons] at hb
    refine ev_pos (mid_lt pre a t) ?_
    rw [rd_mid, leftS_cons, w64 (x := (pre.length : Int) + 1) (by omega) (by omega)]
    refine Ev.bind (rspace_at pre a t (by omega)) ?_
    have next : ∀ acc' : List Int, acc'.length ≤ pre.length + 1 → Ev (fun k => toponymref11_Phone.l0 k (pre ++ a :: t) acc' ((pre.length : Int) + 1)) (acc' ++ leftS (S := fun a => sp a || hyp a) (mk := mkc) t) := by
      intro acc' h'
      rw [mid_snoc pre, ← len_snoc pre a]
      exact ih acc' (pre ++ [a]) (by simp; omega) (by simpa using h')
    refine ev_ite (fun h => ?_) (fun h => ?_)
    · have h' : ((sp a || hyp a) && bareL mkc t) = true := by
        simp only [Bool.and_eq_true] at h
        simp [h.1, h.2]
      rw [if_pos h']
      exact next acc (by omega)
    · refine Ev.bind (rhyphen_at pre a t (by omega)) ?_
      refine ev_ite (fun g => ?_) (fun g => ?_)
      · have g' : ((sp a || hyp a) && bareL mkc t) = true := by
          simp only [Bool.and_eq_true] at g
          simp [g.1, g.2]
        rw [if_pos g']
        exact next acc (by omega)
      · have g' : ¬ ((sp a || hyp a) && bareL mkc t) = true := by
          cases hs : sp a <;> cases hh : hyp a <;> cases hb : bareL mkc t <;> simp [hs, hh, hb] at h g ⊢
        rw [if_neg g']
        refine ev_pos (by omega) (ev_pos (by omega) ?_)
        have := next (acc ++ [a]) (by simp; omega)
        simpa using this
theorem rphone_ev (l : List Int) (hb : l.length < 900000) : Ev (fun k => toponymref11_Phone.f k l) (leftS (S := fun a => sp a || hyp a) (mk := mkc) l) := by
  unfold toponymref11_Phone.f
  have := rphone_loop [] [] l (by simpa using hb) (by simp)
  simpa using this
/-! Pieces: the reference asks whether anything is left where no word is. -/
theorem join2_nil {ws : List (List Int)} (h : ∀ w ∈ ws, w ≠ []) : (join2 ws).length = 0 ↔ ws = [] := by
  cases ws with
  | nil => simp [join2]
  | cons w t =>
    have := List.length_pos_iff.2 (h w (by simp))
    simp [join2]
    intro e
    exact absurd e (h w (by simp))
/-- Where no word is, all are spaces. -/
theorem wds_none (l : List Int) (h : wds (tg mkc l) = []) : l = [] ∨ (atS sp l 0 = true ∧ atS sp l (l.length - 1) = true) := by
  have key : ∀ l : List Int, wds (tg mkc l) = [] → ∀ (pre : List Int) (a : Int) (t : List Int), l = pre ++ a :: t → (sp a && bareL mkc t) = true := by
    intro l
    induction l with
    | nil => intro _ pre a t e; simp at e
    | cons b u ih =>
      intro hw pre a t e
      cases hs : (sp b && bareL mkc u) with
      | false =>
        have e2 : tg mkc (b :: u) = (b, false) :: tg mkc u := by rw [← hs]; rfl
        rw [e2, wds_no] at hw
        cases hw
      | true =>
        have e2 : tg mkc (b :: u) = (b, true) :: tg mkc u := by rw [← hs]; rfl
        rw [e2, wds_sp] at hw
        cases pre with
        | nil =>
          simp only [List.nil_append, List.cons.injEq] at e
          rw [← e.1, ← e.2]; exact hs
        | cons c p =>
          simp only [List.cons_append, List.cons.injEq] at e
          exact ih hw p a t e.2
  cases l with
  | nil => exact .inl rfl
  | cons b u =>
    right
    have at_ : ∀ i : Int, 0 ≤ i → i < ((b :: u).length : Int) → atS sp (b :: u) i = true := by
      intro i h0 h1
      obtain ⟨pre, e, _⟩ := split_at (b :: u) i h0 h1
      have := key _ h pre _ _ e
      unfold atS
      rw [if_pos ⟨h0, h1⟩]
      exact this
    exact ⟨at_ 0 (by omega) (by simp <;> omega), at_ _ (by simp <;> omega) (by omega)⟩
theorem rpiece1_ev (kind : Int) (l : List Int) (hk : kind = 1 ∨ kind = 2 ∨ kind = 3) (hb : l.length < 150000) :
    Ev (fun k => toponymref11_Piece.j1 k kind l) (pieceB l (decide (kind = 1) || atS sp l 0) (decide (kind = 3) || atS sp l (l.length - 1))) ∨ (kind = 1 ∧ l = []) := by
  have h2 := join2_size l
  have hne : ∀ w ∈ wds (tg mkc l), w ≠ [] := fun w hw => (wds_ok mkc32 l w hw).1
  left
  refine Ev.step (fun k => by simp only [toponymref11_Piece.j1]; rfl) ?_
  refine Ev.bind (inner_ev l (by omega)) ?_
  unfold pieceB
  refine ev_ite (fun h => ?_) (fun h => ?_)
  · have hw : wds (tg mkc l) = [] := (join2_nil hne).1 (by omega)
    rw [if_pos hw]
    rcases wds_none l hw with rfl | ⟨a1, a2⟩
    · refine ev_neg (by simp) ?_
      refine ev_ite (fun g => ev_some ?_) (fun g => ev_some ?_)
      · simp [g, atS]
      · have : kind = 1 ∨ kind = 3 := by omega
        rcases this with g | g <;> simp [g, atS]
    · refine ev_pos ?_ (ev_some ?_)
      · cases l with
        | nil => simp [atS] at a1
        | cons b u => simp <;> omega
      · simp [a1]
  · have hw : ¬ wds (tg mkc l) = [] := fun e => h (by rw [e]; rfl)
    rw [if_neg hw]
    have fin : ∀ a : Bool, Ev (fun k => toponymref11_Piece.j2 k kind l (join2 (wds (tg mkc l))) [] a) (vEdge (join2 (wds (tg mkc l))) a (decide (kind = 3) || atS sp l (l.length - 1))) := by
      intro a
      refine Ev.step (fun k => by simp only [toponymref11_Piece.j2]; rfl) ?_
      have hl : l ≠ [] := by rintro rfl; exact hw rfl
      have hlp := List.length_pos_iff.2 hl
      have w1 : wrap64 ((l.length : Int) - 1) = (l.length : Int) - 1 := w64 (by omega) (by omega)
      rw [w1]
      refine ev_ite (fun g => ?_) (fun g => ?_)
      · refine ev_pos (by simp) (ev_bind0 rfl (ev_pos (by simp; omega) (ev_bind0 rfl ?_)))
        refine ev_ite (fun g3 => ev_pos (by simp; omega) (ev_some (by simp [vEdge, g, g3]))) (fun g3 => ?_)
        refine Ev.bind (rspace_ev l _ (by omega)) ?_
        refine ev_ite (fun g4 => ev_pos (by simp; omega) (ev_some (by simp [vEdge, g, g3, g4]))) (fun g4 => ev_some (by simp [vEdge, g, g3, g4]))
      · refine ev_pos (by simp; omega) (ev_bind0 rfl ?_)
        refine ev_ite (fun g3 => ev_pos (by simp; omega) (ev_some (by simp [vEdge, g, g3]))) (fun g3 => ?_)
        refine Ev.bind (rspace_ev l _ (by omega)) ?_
        refine ev_ite (fun g4 => ev_pos (by simp; omega) (ev_some (by simp [vEdge, g, g3, g4]))) (fun g4 => ev_some (by simp [vEdge, g, g3, g4]))
    refine ev_ite (fun g => ?_) (fun g => ?_)
    · rw [decide_eq_true g]
      exact fin true
    · rw [decide_eq_false g]
      exact Ev.bind (rspace_ev l 0 (by omega)) (fin _)
theorem rpiece_ev (kind : Int) (l : List Int) (hb : l.length < 100000) : Ev (fun k => toponymref11_Piece.f k kind l) (vPiece kind l) := by
  have h1 := vFirm_length l
  have j0no : ∀ b : Bool, b = true → ¬ (kind = 1 ∨ kind = 2 ∨ kind = 3) → Ev (fun k => toponymref11_Piece.j0 k kind l b) (vPiece kind l) := by
    intro b hb2 hk
    subst hb2
    refine Ev.step (fun k => by simp only [toponymref11_Piece.j0]; rfl) ?_
    unfold vPiece
    rw [if_pos (by omega)]
    exact ev_pos (by first | rfl | trivial) (Ev.now _)
  have yes : (kind = 1 ∨ kind = 2 ∨ kind = 3) → Ev (fun k => toponymref11_Piece.j0 k kind l false) (vPiece kind l) := by
    intro hk
    refine Ev.step (fun k => by simp only [toponymref11_Piece.j0]; rfl) ?_
    refine ev_neg (by simp) ?_
    unfold vPiece
    rw [if_neg (by omega)]
    refine ev_ite (fun e => ?_) (fun e => ?_)
    · rw [if_pos e]
      refine Ev.bind (rfirm_ev l (by omega)) ?_
      rcases rpiece1_ev kind (vFirm l) hk (by omega) with h | ⟨_, h⟩
      · subst e
        simpa using h
      · subst e
        rcases rpiece1_ev 1 (vFirm l) hk (by omega) with h | ⟨_, h⟩
        · simpa using h
        · rw [h]
          refine Ev.step (fun k => by simp only [toponymref11_Piece.j1]; rfl) ?_
          refine Ev.bind (inner_ev [] (by simp)) (ev_pos (by simp [tgS, wds, wd, join2]) (ev_neg (by simp) (ev_neg (by simp) (ev_some ?_))))
          simp [pieceB, tgS, wds, wd]
    · rw [if_neg e]
      rcases rpiece1_ev kind l hk (by omega) with h | ⟨h, _⟩
      · rw [decide_eq_false e] at h
        simpa using h
      · exact absurd h e
  unfold toponymref11_Piece.f
  refine ev_ite (fun h => yes (.inl h)) (fun h => ?_)
  refine ev_ite (fun h2 => yes (.inr (.inl h2))) (fun h2 => ?_)
  by_cases h3 : kind = 3
  · rw [show (kind != 3) = false from by simp [h3]]
    exact yes (.inr (.inr h3))
  · exact j0no _ (by simp [h3]) (by omega)
end Go.Proofs.Ytddmaioalilhmaa.Pure
