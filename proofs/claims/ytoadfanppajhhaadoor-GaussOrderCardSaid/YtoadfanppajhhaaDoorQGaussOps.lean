import Derived.Test.YtoadfanppajhhaaDoorQGaussRef
import Derived.Test.YtoadfanppajhhaaDoorP1
import Derived.Test.YtoadfanppajhhaaDoorP2
import Derived.Test.YtoadfanppajhhaaDoorP4
/- Numbers of two whole parts: turned, multiplied, ordered. -/
namespace Go.Proofs.YtoadfanppajhhaaDoor.Pure
open Go.RowKit Go.Proofs.YtoadfanppajhhaaDoor.P Go.Proofs.YtoadfanppajhhaaDoorW.PrintWords Go.Proofs.YtoadfanppajhhaaDoorW.PrintLast
set_option linter.unusedVariables false
set_option linter.unusedSimpArgs false
theorem flt_zh {a b : Int} (ha : a.natAbs ≤ 999999) (hb : b.natAbs ≤ 999999) : Zh (flt a, flt b) (some (a, b)) := ⟨flt_wh ha, flt_wh hb⟩
def tn (n : Int) : Int := (Int.tmod n 4 + 4).tmod 4
theorem tn_range (n : Int) : 0 ≤ tn n ∧ tn n < 4 := by
 unfold tn
 have h1 := Int.lt_tmod_of_pos n (b := 4) (by omega)
 exact ⟨Int.tmod_nonneg 4 (by omega), Int.tmod_lt_of_pos _ (by omega)⟩
theorem tn_eq (n : Int) : tn n = if Int.tmod n 4 < 0 then Int.tmod n 4 + 4 else Int.tmod n 4 := by
 unfold tn
 have h1 := Int.lt_tmod_of_pos n (b := 4) (by omega)
 have h2 := Int.tmod_lt_of_pos n (b := 4) (by omega)
 split
 ·rw [Int.tmod_eq_emod_of_nonneg (by omega)]; omega
 ·rw [Int.tmod_eq_emod_of_nonneg (by omega)]; omega
def rot (k : Int) (p : Int × Int) : Int × Int := if k = 1 then (-p.2, p.1) else if k = 2 then (-p.1, -p.2) else if k = 3 then (p.2, -p.1) else p
def zturn (n : Int) : Option (Int × Int) → (Nat × Nat) × Int
 | some p => ((flt (rot (tn n) p).1, flt (rot (tn n) p).2), 0)
 | none => ((0, 0), 140)
theorem turn_ev {z : Nat × Nat} {v : Option (Int × Int)} (h : Zh z v) (n : Int) : gauss_Turn.f z n = some (zturn n v) := by
 obtain ⟨r, e, t⟩ := parts_ev h
 have h1 := Int.lt_tmod_of_pos n (b := 4) (by omega)
 have h2 := Int.tmod_lt_of_pos n (b := 4) (by omega)
 unfold gauss_Turn.f
 rw [e]
 rcases v with _ | ⟨a, b⟩
 ·have t' : r.2.2 = false := t
  show (if r.2.2 = true then _ else _) = _
  rw [if_neg (by rw [t']; simp)]
  rfl
 ·have t' : r = (a, b, true) := t
  subst t'
  have ha := h.1.2.2
  have hb := h.2.2.2
  have e4 : (wrap64 (Int.tmod n 4 + 4)).tmod 4 = tn n := by rw [w64 (by omega) (by omega)]; rfl
  simp only [Option.bind_some, if_true]
  rw [e4, w64 (x := -b) (by omega) (by omega), w64 (x := -a) (by omega) (by omega)]
  show _ = some ((flt (rot (tn n) (a, b)).1, flt (rot (tn n) (a, b)).2), 0)
  by_cases k1 : tn n = 1
  ·have : rot (tn n) (a, b) = (-b, a) := by unfold rot; rw [if_pos k1]
   rw [if_pos k1, this]; rfl
  rw [if_neg k1]
  by_cases k2 : tn n = 2
  ·have : rot (tn n) (a, b) = (-a, -b) := by unfold rot; rw [if_neg k1, if_pos k2]
   rw [if_pos k2, this]; rfl
  rw [if_neg k2]
  by_cases k3 : tn n = 3
  ·have : rot (tn n) (a, b) = (b, -a) := by unfold rot; rw [if_neg k1, if_neg k2, if_pos k3]
   rw [if_pos k3, this]; rfl
  have : rot (tn n) (a, b) = (a, b) := by unfold rot; rw [if_neg k1, if_neg k2, if_neg k3]
  rw [if_neg k3, this]; rfl
def rturn (n : Int) : Option (Int × Int) → Int × Int × Int
 | some p => ((rot (tn n) p).1, (rot (tn n) p).2, 0)
 | none => (0, 0, 140)
theorem rturn_loop : ∀ (k : Nat) (a b : Int), k < 4 → a.natAbs ≤ 999999 → b.natAbs ≤ 999999 → Ev (fun m => toponymref14_Turn.l0 m a b (k : Int)) ((rot k (a, b)).1, (rot k (a, b)).2, 0)
 | 0, a, b, _, _, _ => by
  refine Ev.step (fun k => by simp only [toponymref14_Turn.l0]; rfl) (ev_neg (by simp) (Ev.now _))
 | k + 1, a, b, h, ha, hb => by
  refine Ev.step (fun k => by simp only [toponymref14_Turn.l0]; rfl) (ev_pos (by omega) ?_)
  rw [w64 (by omega) (by omega), w64 (by omega) (by omega)]
  have e : (((k + 1 : Nat) : Int)) - 1 = (k : Int) := by omega
  rw [e]
  refine ev_eq (rturn_loop k (-b) a (by omega) (by omega) ha) ?_
  have hk : k = 0 ∨ k = 1 ∨ k = 2 := by omega
  rcases hk with rfl | rfl | rfl <;> simp [rot]
theorem rturn_ev {x y : Nat} {v : Option (Int × Int)} (h : Zh (x, y) v) (n : Int) : Ev (fun k => toponymref14_Turn.f k x y n) (rturn n v) := by
 have h1 := Int.lt_tmod_of_pos n (b := 4) (by omega)
 have h2 := Int.tmod_lt_of_pos n (b := 4) (by omega)
 unfold toponymref14_Turn.f
 refine ev_bind0 (rparts_ev h) ?_
 rcases v with _ | ⟨a, b⟩
 ·exact ev_neg (by simp [zref]) (Ev.now _)
 ·have key : Ev (fun m => toponymref14_Turn.l0 m a b (tn n)) (rturn n (some (a, b))) := by
   have hr := tn_range n
   have := rturn_loop (tn n).toNat a b (by omega) h.1.2.2 h.2.2.2
   rw [Int.toNat_of_nonneg hr.1] at this
   exact this
  refine ev_pos rfl (ev_ite (fun c => ?_) (fun c => ?_))
  ·refine Ev.step (fun k => by simp only [toponymref14_Turn.j0]; rfl) ?_
   rw [w64 (by omega) (by omega)]
   have e := tn_eq n
   rw [if_pos c] at e
   rw [← e]
   exact key
  ·refine Ev.step (fun k => by simp only [toponymref14_Turn.j0]; rfl) ?_
   have e := tn_eq n
   rw [if_neg c] at e
   rw [← e]
   exact key
def zm (p q : Int × Int) : Int × Int := (p.1 * q.1 - p.2 * q.2, p.1 * q.2 + p.2 * q.1)
def fits (p : Int × Int) : Bool := decide (p.1.natAbs ≤ 999999) && decide (p.2.natAbs ≤ 999999)
def ztimes : Option (Int × Int) → Option (Int × Int) → (Nat × Nat) × Int
 | some p, some q => if fits (zm p q) = true then ((flt (zm p q).1, flt (zm p q).2), 0) else ((0, 0), 3)
 | _, _ => ((0, 0), 140)
theorem mul_bits {a b c d : Nat} {p q r s : Int} (h1 : Wh a p) (h2 : Wh b q) (h3 : Wh c r) (h4 : Wh d s) : ∃ x y, Go.cMulBits a b c d = some (x, y) ∧ Fl.fin x = true ∧ Fl.fv x = (p * r - q * s) * Fl.T ∧ Fl.fin y = true ∧ Fl.fv y = (p * s + q * r) * Fl.T := by
 have big : (4000000000000 : Nat) < 2 ^ 53 := by decide
 have m1 := mul_le h1.2.2 h3.2.2
 have m2 := mul_le h2.2.2 h4.2.2
 have m3 := mul_le h1.2.2 h4.2.2
 have m4 := mul_le h2.2.2 h3.2.2
 obtain ⟨u1, e1, f1, v1⟩ := Fl.mul_val h1.1 h3.1 h1.2.1 h3.2.1 (by omega)
 obtain ⟨u2, e2, f2, v2⟩ := Fl.mul_val h2.1 h4.1 h2.2.1 h4.2.1 (by omega)
 obtain ⟨u3, e3, f3, v3⟩ := Fl.sub_val f1 f2 v1 v2 (by omega)
 obtain ⟨u4, e4, f4, v4⟩ := Fl.mul_val h1.1 h4.1 h1.2.1 h4.2.1 (by omega)
 obtain ⟨u5, e5, f5, v5⟩ := Fl.mul_val h2.1 h3.1 h2.2.1 h3.2.1 (by omega)
 obtain ⟨u6, e6, f6, v6⟩ := Fl.add_val f4 f5 v4 v5 (by omega)
 refine ⟨u3, u6, ?_, f3, v3, f6, v6⟩
 have g1 : Go.floatBits .mul .f64 a c = some u1 := e1
 have g2 : Go.floatBits .mul .f64 b d = some u2 := e2
 have g3 : Go.floatBits .sub .f64 u1 u2 = some u3 := e3
 have g4 : Go.floatBits .mul .f64 a d = some u4 := e4
 have g5 : Go.floatBits .mul .f64 b c = some u5 := e5
 have g6 : Go.floatBits .add .f64 u4 u5 = some u6 := e6
 unfold Go.cMulBits
 simp only [g1, g2, g3, g4, g5, g6, Option.bind_some]
theorem wh_iff {b : Nat} {n m : Int} (hf : Fl.fin b = true) (hv : Fl.fv b = n * Fl.T) (h : Wh b m) : m = n := (Int.mul_eq_mul_right_iff (Int.ne_of_gt Fl.T_pos)).mp (h.2.1.symm.trans hv)
theorem times_ev {z y : Nat × Nat} {v u : Option (Int × Int)} (hz : Zh z v) (hy : Zh y u) : Ev (fun k => gauss_Times.f k z y) (ztimes v u) := by
 unfold gauss_Times.f
 refine ev_bind0 (fits_ev hz) ?_
 rcases v with _ | p
 ·refine ev_neg (by simp) ?_
  refine Ev.step (fun k => by simp only [gauss_Times.j0]; rfl) ?_
  exact ev_pos (by trivial) (Ev.now _)
 refine ev_pos rfl (ev_bind0 (fits_ev hy) ?_)
 rcases u with _ | q
 ·refine Ev.step (fun k => by simp only [gauss_Times.j0]; rfl) ?_
  exact ev_pos (by trivial) (Ev.now _)
 refine Ev.step (fun k => by simp only [gauss_Times.j0]; rfl) ?_
 obtain ⟨x, w, e, f1, v1, f2, v2⟩ := mul_bits hz.1 hz.2 hy.1 hy.2
 have ef : fMul z.1 z.2 y.1 y.2 = (x, w) := by unfold fMul; rw [e]; rfl
 rw [ef]
 refine ev_neg (by simp) (ev_pos e ?_)
 show Ev _ (if fits (zm p q) = true then ((flt (zm p q).1, flt (zm p q).2), 0) else ((0, 0), 3))
 by_cases c : fits (zm p q) = true
 ·rw [if_pos c]
  have c' := c
  unfold fits at c'
  simp only [Bool.and_eq_true, decide_eq_true_eq] at c'
  obtain ⟨r, er, tr⟩ := parts_ev (z := (x, w)) (v := some (zm p q)) ⟨⟨f1, v1, c'.1⟩, ⟨f2, v2, c'.2⟩⟩
  have tr' : r = ((zm p q).1, (zm p q).2, true) := tr
  subst tr'
  exact ev_bind0 er (ev_pos rfl (ev_bind0 (whole_ev _ _) (Ev.now _)))
 ·rw [if_neg c]
  obtain ⟨r, er, tr⟩ := parts_ev (z := (x, w)) (v := none) (fun a b ⟨h1, h2⟩ => by
   obtain rfl := wh_iff f1 v1 h1
   obtain rfl := wh_iff f2 v2 h2
   exact c (by unfold fits zm; simp [h1.2.2, h2.2.2]))
  have tr' : r.2.2 = false := tr
  exact ev_bind0 er (ev_neg (by rw [tr']; simp) (Ev.now _))
def rtimes : Option (Int × Int) → Option (Int × Int) → Int × Int × Int
 | some p, some q => if fits (zm p q) = true then ((zm p q).1, (zm p q).2, 0) else (0, 0, 3)
 | _, _ => (0, 0, 140)
theorem rtimes_ev {a b c d : Nat} {v u : Option (Int × Int)} (hz : Zh (a, b) v) (hy : Zh (c, d) u) : Ev (fun k => toponymref14_Times.f k a b c d) (rtimes v u) := by
 unfold toponymref14_Times.f
 refine ev_bind0 (rparts_ev hz) (ev_bind0 (rparts_ev hy) ?_)
 rcases v with _ | ⟨p, q⟩
 ·refine ev_neg (by simp [zref]) ?_
  refine Ev.step (fun k => by simp only [toponymref14_Times.j0]; rfl) ?_
  exact ev_pos (by trivial) (Ev.now _)
 refine ev_pos rfl ?_
 rcases u with _ | ⟨r, s⟩
 ·refine Ev.step (fun k => by simp only [toponymref14_Times.j0]; rfl) ?_
  exact ev_pos rfl (Ev.now _)
 show Ev (fun k => toponymref14_Times.j0 k p q r s false) _
 refine Ev.step (fun k => by simp only [toponymref14_Times.j0]; rfl) (ev_neg (by simp) ?_)
 have m1 := mul_le hz.1.2.2 hy.1.2.2
 have m2 := mul_le hz.2.2.2 hy.2.2.2
 have m3 := mul_le hz.1.2.2 hy.2.2.2
 have m4 := mul_le hz.2.2.2 hy.1.2.2
 rw [w64 (x := p * r) (by omega) (by omega), w64 (x := q * s) (by omega) (by omega), w64 (x := p * s) (by omega) (by omega), w64 (x := q * r) (by omega) (by omega), w64 (x := p * r - q * s) (by omega) (by omega), w64 (x := p * s + q * r) (by omega) (by omega)]
 show Ev _ (if fits (p * r - q * s, p * s + q * r) = true then (p * r - q * s, p * s + q * r, 0) else (0, 0, 3))
 by_cases c : fits (p * r - q * s, p * s + q * r) = true
 ·rw [if_pos c]
  unfold fits at c
  simp only [Bool.and_eq_true, decide_eq_true_eq] at c
  exact ev_neg (by omega) (ev_neg (by omega) (ev_neg (by omega) (ev_neg (by omega) (Ev.now _))))
 ·rw [if_neg c]
  have c' : ¬ ((p * r - q * s).natAbs ≤ 999999 ∧ (p * s + q * r).natAbs ≤ 999999) := fun h => c (by unfold fits; simp [h.1, h.2])
  refine ev_ite (fun _ => Ev.now _) (fun g1 => ev_ite (fun _ => Ev.now _) (fun g2 => ev_ite (fun _ => Ev.now _) (fun g3 => ev_ite (fun _ => Ev.now _) (fun g4 => absurd ⟨?_, ?_⟩ c')))) <;> omega
def cmpI (a b : Int) : Int := if a < b then -1 else if a > b then 1 else 0
theorem cmpint_ev (a b : Int) : cmp_Compare_int.f a b = some (cmpI a b) := by
 unfold cmp_Compare_int.f cmp_isNaN_int.f cmpI
 have h1 : (a != a) = false := by simp
 have h2 : (b != b) = false := by simp
 rw [h1, h2]
 simp only [Option.bind_some]
 rw [if_neg (by simp), if_neg (by simp)]
 split
 ·rfl
 ·split <;> rfl
theorem cmpfl_ev {x y : Nat} {a b : Int} (hx : Wh x a) (hy : Wh y b) : cmp_Compare_float64.f x y = some (cmpI a b) := by
 unfold cmp_Compare_float64.f cmp_isNaN_float64.f
 rw [ord_self hx.1, ord_self hy.1, ord_wh hx hy]
 have h0 : ((some Ordering.eq : Option Ordering) != some .eq) = false := rfl
 rw [h0]
 simp only [Option.bind_some]
 rw [if_neg (by simp), if_neg (by simp)]
 have hc := Fl.compare_eq a b
 rcases Int.lt_trichotomy a b with h | h | h
 ·have ec : cmpI a b = -1 := by unfold cmpI; rw [if_pos h]
  rw [ec, hc.2.1.mpr h]; rfl
 ·have ec : cmpI a b = 0 := by unfold cmpI; rw [if_neg (by omega), if_neg (by omega)]
  rw [ec, hc.1.mpr h]; rfl
 ·have ec : cmpI a b = 1 := by unfold cmpI; rw [if_neg (by omega), if_pos h]
  rw [ec, hc.2.2.mpr h]; rfl
def thn (a b : Int) : Int := if a = 0 then b else a
theorem or_ev (a b : Int) : Ev (fun k => cmp_Or_int.f k [a, b]) (thn a b) := by
 unfold cmp_Or_int.f thn
 refine Ev.step (fun k => by simp only [cmp_Or_int.l0]; rfl) (ev_pos (by simp) (ev_pos (by omega) (ev_pos (by simp) ?_)))
 have e0 : rd [a, b] 0 = a := rfl
 rw [e0]
 refine ev_ite (fun c => ?_) (fun c => ev_some (by rw [if_neg c]))
 rw [if_pos c, w64 (by omega) (by omega)]
 refine Ev.step (fun k => by simp only [cmp_Or_int.l0]; rfl) (ev_pos (by simp) (ev_pos (by omega) (ev_pos (by simp) ?_)))
 have e1 : rd [a, b] (0 + 1) = b := rfl
 rw [e1]
 refine ev_ite (fun c2 => ?_) (fun _ => Ev.now _)
 rw [w64 (by omega) (by omega)]
 exact Ev.step (fun k => by simp only [cmp_Or_int.l0]; rfl) (ev_neg (by simp) (ev_some c2.symm))
def zcmp (v u : Option (Int × Int)) : Int := thn (cmpI (nrm v) (nrm u)) (match v, u with | some p, some q => thn (cmpI p.1 q.1) (cmpI p.2 q.2) | _, _ => 0)
theorem nrm_pos (p : Int × Int) : 0 ≤ nrm (some p) := by
 have h : ∀ a : Int, 0 ≤ a * a := fun a => by
  rcases Int.lt_or_le a 0 with h | h
  ·exact Int.le_of_lt (Int.mul_pos_of_neg_of_neg h h)
  ·exact Int.mul_nonneg h h
 have h1 := h p.1
 have h2 := h p.2
 show 0 ≤ p.1 * p.1 + p.2 * p.2
 omega
theorem zcmp_ev {z y : Nat × Nat} {v u : Option (Int × Int)} (hz : Zh z v) (hy : Zh y u) : Ev (fun k => gauss_Cmp.f k z y) (zcmp v u) := by
 unfold gauss_Cmp.f zcmp
 refine ev_bind0 (nrm_ev hz) (ev_bind0 (nrm_ev hy) (ev_bind0 (cmpint_ev _ _) ?_))
 refine ev_ite (fun c => ?_) (fun c => ?_)
 ·refine ev_bind0 (fits_ev hz) ?_
  refine Ev.step (fun k => by simp only [gauss_Cmp.j0]; rfl) ?_
  unfold thn
  rw [if_pos c]
  rcases v with _ | p
  ·refine ev_pos rfl (ev_some ?_)
   rw [c]
  ·rcases u with _ | q
   ·have h1 := nrm_pos p
    have : cmpI (nrm (some p)) (nrm none) = 1 := by
     have hn : nrm none = -1 := rfl
     unfold cmpI
     rw [hn, if_neg (by omega), if_pos (by omega)]
    rw [this] at c
    exact absurd c (by decide)
   ·exact ev_neg (by simp) (ev_bind0 (cmpfl_ev hz.1 hy.1) (ev_bind0 (cmpfl_ev hz.2 hy.2) (Ev.bind (or_ev _ _) (Ev.now _))))
 ·refine Ev.step (fun k => by simp only [gauss_Cmp.j0]; rfl) ?_
  refine ev_pos (by trivial) (ev_some ?_)
  unfold thn
  rw [if_neg c]
theorem rcmp_ev {a b c d : Nat} {v u : Option (Int × Int)} (hz : Zh (a, b) v) (hy : Zh (c, d) u) : toponymref14_Cmp.f a b c d = some (zcmp v u) := by
 unfold toponymref14_Cmp.f zcmp
 rw [rparts_ev hz, rparts_ev hy, rnrm_ev hz, rnrm_ev hy]
 simp only [Option.bind_some]
 unfold thn
 by_cases h1 : nrm v < nrm u
 ·have e : cmpI (nrm v) (nrm u) = -1 := by unfold cmpI; rw [if_pos h1]
  rw [if_pos h1, e, if_neg (by decide)]
 rw [if_neg h1]
 by_cases h2 : nrm v > nrm u
 ·have e : cmpI (nrm v) (nrm u) = 1 := by unfold cmpI; rw [if_neg h1, if_pos h2]
  rw [if_pos h2, e, if_neg (by decide)]
 rw [if_neg h2]
 have e : cmpI (nrm v) (nrm u) = 0 := by unfold cmpI; rw [if_neg h1, if_neg h2]
 rw [e, if_pos rfl]
 rcases v with _ | ⟨p, q⟩
 ·rcases u with _ | ⟨r, s⟩
  ·rfl
  ·have h := nrm_pos (r, s)
   have : nrm none = -1 := rfl
   omega
 ·rcases u with _ | ⟨r, s⟩
  ·have h := nrm_pos (p, q)
   have : nrm none = -1 := rfl
   omega
  ·show (if p < r then some (-1) else if p > r then some 1 else if q < s then some (-1) else if q > s then some 1 else some 0) = some (if cmpI p r = 0 then cmpI q s else cmpI p r)
   unfold cmpI
   by_cases g1 : p < r
   ·simp [g1]
   by_cases g2 : p > r
   ·simp [g1, g2]
   by_cases g3 : q < s
   ·simp [g1, g2, g3]
   by_cases g4 : q > s
   ·simp [g1, g2, g3, g4]
   simp [g1, g2, g3, g4]
end Go.Proofs.YtoadfanppajhhaaDoor.Pure
