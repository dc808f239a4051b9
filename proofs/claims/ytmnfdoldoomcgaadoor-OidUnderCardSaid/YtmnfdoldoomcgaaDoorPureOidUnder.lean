import Derived.Test.YtmnfdoldoomcgaaDoorQOid
import Derived.Test.YtmnfdoldoomcgaaDoorP1
import Derived.Test.YtmnfdoldoomcgaaDoorP2
import Derived.Test.YtmnfdoldoomcgaaDoorP4
/- OidUnder: of any three lists (of at most 1000 numbers each, as the statement has it): what is under an identifier stands behind it, and what stands between two under it is under it; no condition. -/
namespace Go.Proofs.YtmnfdoldoomcgaaDoor.Pure
open Go.RowKit Go.Proofs.YtmnfdoldoomcgaaDoor.P Go.Proofs.YtmnfdoldoomcgaaDoorW.PrintWords Go.Proofs.YtmnfdoldoomcgaaDoorW.PrintLast
theorem lc_prefix {t a : List Int} (h : a.take t.length = t) : lc t a ≤ 0 := by
 induction t generalizing a with
 | nil => cases a <;> simp [lc]
 | cons x t ih => cases a with
  | nil => simp at h
  | cons y a =>
   simp only [List.length_cons, List.take_succ_cons, List.cons.injEq] at h
   unfold lc
   rw [if_neg (by omega), if_neg (by omega)]
   exact ih h.2
theorem prefix_between {t a b : List Int} (h : a.take t.length = t) (h1 : lc t b ≤ 0) (h2 : lc b a ≤ 0) : t.length ≤ b.length ∧ b.take t.length = t := by
 induction t generalizing a b with
 | nil => simp
 | cons x t ih => cases a with
  | nil => simp at h
  | cons y a => cases b with
   | nil => simp [lc] at h1
   | cons z b =>
    simp only [List.length_cons, List.take_succ_cons, List.cons.injEq] at h ⊢
    unfold lc at h1 h2
    have hx : z = x := by
     split at h1
     ·split at h2
      ·omega
      ·split at h2 <;> omega
     ·split at h1 <;> omega
    subst hx
    rw [if_neg (by omega), if_neg (by omega)] at h1
    rw [if_neg (by omega), if_neg (by omega)] at h2
    have := ih h.2 h1 h2
    exact ⟨by omega, rfl, this.2⟩
theorem vld_above {l : List Int} (h : vld l = true) (h3 : 3 ≤ l.length) : vld (l.take (l.length - 1)) = true := by
 have g := (vld_iff l).1 h
 have hl : (l.take (l.length - 1)).length = l.length - 1 := by simp
 have hr : ∀ j, j < l.length - 1 → rd (l.take (l.length - 1)) (j : Int) = rd l (j : Int) := fun j hj => by
  unfold rd
  rw [Int.toNat_natCast, List.getD_eq_getElem?_getD, List.getD_eq_getElem?_getD, List.getElem?_take]
  simp [hj]
 rw [vld_iff, hl]
 refine ⟨by omega, by omega, fun j hj => ?_⟩
 have e := g.2.2 j (by omega)
 have h0 := hr 0 (by omega)
 simp only [Int.natCast_zero] at h0
 unfold most at e ⊢
 rw [hr j hj, h0]
 exact e
theorem above_part (a : List Int) (ha : a.length ≤ 1000) : Ev (fun k => (oid_Above.f k a).bind fun t272 => (if (t272.length : Int) = 0 then ((toponymlaw17_awake.f k).bind fun t275 => (some t275)) else ((oid_Under.f k a t272).bind fun t276 => (if t276 = true then (if (t272.length : Int) = (wrap64 ((a.length : Int) - 1)) then ((toponymlaw17_awake.f k).bind fun t277 => (some t277)) else (some false)) else (some false))))) true := by
 have fin : Ev (fun k => (toponymlaw17_awake.f k).bind fun t => some t) true := Ev.bind awake17_ev (Ev.now _)
 refine Ev.bind (above_ev a (by omega)) ?_
 unfold above
 by_cases h : vld a = true ∧ 3 ≤ a.length
 ·rw [if_pos h]
  have hl : (a.take (a.length - 1)).length = a.length - 1 := by simp
  refine ev_neg (by rw [hl]; omega) (Ev.bind (under_ev a _ (by omega) (by rw [hl]; omega)) (ev_pos ?_ (ev_pos ?_ fin)))
  ·unfold under
   rw [h.1, vld_above h.1 h.2, hl]
   simp
  ·rw [hl, w64 (by omega) (by omega)]
   omega
 ·rw [if_neg h]
  exact ev_pos (by simp) fin
theorem oidUnder_far (a b c : List Int) : Ev (fun k => toponymlaw17_OidUnder.j0 k a b c true) true := by
 refine Ev.step (fun k => by simp only [toponymlaw17_OidUnder.j0]; rfl) ?_
 exact ev_pos trivial (Ev.bind awake17_ev (Ev.now _))
theorem oidUnder_j1 (a : List Int) (ha : a.length ≤ 1000) : Ev (fun k => toponymlaw17_OidUnder.j1 k a false) true := by
 refine Ev.step (fun k => by simp only [toponymlaw17_OidUnder.j1]; rfl) (ev_neg (by simp) ?_)
 exact above_part a ha
theorem oidUnder_go (a b t : List Int) (ha : a.length ≤ 1000) (hb : b.length ≤ 1000) (ht : t.length ≤ 1000) : Ev (fun k => toponymlaw17_OidUnder.j0 k a b t false) true := by
 refine Ev.step (fun k => by simp only [toponymlaw17_OidUnder.j0]; rfl) (ev_neg (by simp) ?_)
 refine Ev.bind (under_ev a t (by omega) (by omega)) ?_
 cases hu : under a t with
 | false => exact ev_neg (by simp) (above_part a ha)
 | true =>
  refine ev_pos rfl (Ev.bind (cmp_ev t a (by omega)) ?_)
  unfold under at hu
  simp only [Bool.and_eq_true, decide_eq_true_eq] at hu
  obtain ⟨h1, h2, h3, h4⟩ := hu
  have h5 := lc_prefix h4
  refine ev_neg (by omega) (Ev.bind (cmp_ev t b (by omega)) (ev_ite (fun g1 => ?_) (fun _ => oidUnder_j1 a ha)))
  refine Ev.bind (cmp_ev b a (by omega)) (ev_ite (fun g2 => ?_) (fun _ => oidUnder_j1 a ha))
  refine Ev.bind (check_ev b (by omega)) (ev_ite (fun g3 => ?_) (fun _ => oidUnder_j1 a ha))
  refine Ev.bind (under_ev b t (by omega) (by omega)) ?_
  have g4 := prefix_between h4 g1 g2
  have g5 : under b t = true := by
   unfold under
   rw [(code_zero b).1 g3, h2]
   simp [g4.1, g4.2]
  rw [g5]
  exact oidUnder_j1 a ha
theorem OidUnder : toponymlaw17_OidUnder.Pure := by
 intro a b c _ _ _ _ _ _ _ _ _
 refine Ev.rounds ?_
 unfold toponymlaw17_OidUnder.f
 refine ev_ite (fun _ => oidUnder_far a b c) (fun h0 => ev_ite (fun _ => oidUnder_far a b c) (fun h1 => ?_))
 by_cases h2 : (c.length : Int) > 1000
 ·rw [decide_eq_true h2]; exact oidUnder_far a b c
 ·rw [decide_eq_false h2]; exact oidUnder_go a b c (by omega) (by omega) (by omega)
end Go.Proofs.YtmnfdoldoomcgaaDoor.Pure
