import Derived.Test.YtdgnekknmpfepaaGreatDoorQFloat
import Derived.Test.YtdgnekknmpfepaaGreatDoorQBase
import Derived.Test.YtdgnekknmpfepaaGreatDoorP7
/- Numbers of two whole parts: what part, parts, Whole and Parts tell. -/
namespace Go.Proofs.YtdgnekknmpfepaaGreatDoor.Pure.G
open Go.RowKit Go.Proofs.YtdgnekknmpfepaaGreatDoor.P Go.Proofs.YtdgnekknmpfepaaGreatDoorW.PrintWords Go.Proofs.YtdgnekknmpfepaaGreatDoorW.PrintLast
set_option linter.unusedVariables false
set_option linter.unusedSimpArgs false
def Wh (b : Nat) (n : Int) : Prop := Fl.fin b = true ∧ Fl.fv b = n * Fl.T ∧ n.natAbs ≤ 999999
def flt (n : Int) : Nat := Go.floatOfInt .f64 n
theorem Wh.same {b : Nat} {m n : Int} (h1 : Wh b m) (h2 : Wh b n) : m = n := by
 have e : m * Fl.T = n * Fl.T := h1.2.1.symm.trans h2.2.1
 exact (Int.mul_eq_mul_right_iff (Int.ne_of_gt Fl.T_pos)).mp e
theorem lo_eq : flt (-999999) = 13920209174949527552 := by decide +kernel
theorem hi_eq : flt 999999 = 4696837138094751744 := by decide +kernel
theorem zero_eq : flt 0 = 0 := by decide +kernel
theorem flt_fin {n : Int} (h : n.natAbs < 2 ^ 53) : Fl.fin (flt n) = true ∧ Fl.fv (flt n) = n * Fl.T := Fl.int_val n h
theorem small {n : Int} (h : n.natAbs ≤ 999999) : n.natAbs < 2 ^ 53 := by
 have : (999999 : Nat) < 2 ^ 53 := by decide
 omega
theorem flt_wh {n : Int} (h : n.natAbs ≤ 999999) : Wh (flt n) n := ⟨(flt_fin (small h)).1, (flt_fin (small h)).2, h⟩
theorem scale_lt {x y : Int} : x * Fl.T < y * Fl.T ↔ x < y := Int.mul_lt_mul_right Fl.T_pos
theorem scale_le {x y : Int} : x * Fl.T ≤ y * Fl.T ↔ x ≤ y := Int.mul_le_mul_right Fl.T_pos
theorem cmp_scale (x y : Int) : compare (x * Fl.T) (y * Fl.T) = compare x y := by
 have h1 := Fl.compare_eq (x * Fl.T) (y * Fl.T)
 have h2 := Fl.compare_eq x y
 rcases Int.lt_trichotomy x y with h | h | h
 ·rw [h2.2.1.mpr h, h1.2.1.mpr (scale_lt.mpr h)]
 ·rw [h2.1.mpr h, h1.1.mpr (by rw [h])]
 ·rw [h2.2.2.mpr h, h1.2.2.mpr (scale_lt.mpr h)]
theorem ord_wh {b c : Nat} {m n : Int} (h1 : Wh b m) (h2 : Wh c n) : Go.FloatKind.f64.format.order b c = some (compare m n) := by
 show Ieee.double.order b c = _
 rw [Fl.order_fin h1.1 h2.1, h1.2.1, h2.2.1, cmp_scale]
theorem ord_self {b : Nat} (h : Fl.fin b = true) : Go.FloatKind.f64.format.order b b = some .eq := by
 show Ieee.double.order b b = _
 rw [Fl.order_fin h h, (Fl.compare_eq _ _).1.mpr rfl]
theorem ord_eq {b c : Nat} (h : Go.FloatKind.f64.format.order b c = some .eq) {n : Int} (hw : Wh b n) : Wh c n := by
 have h' : Ieee.double.order b c = some .eq := h
 have hc : Fl.fin c = true := by
  obtain ⟨s, m, i, eb⟩ := Fl.fin_iff hw.1
  unfold Ieee.Format.order at h'
  rw [eb] at h'
  unfold Fl.fin
  cases e : Ieee.double.read c with
  | number => rfl
  | infinity u => rw [e] at h'; cases u <;> simp [Ieee.Datum.order] at h'
  | nan => rw [e] at h'; simp [Ieee.Datum.order] at h'
 rw [Fl.order_fin hw.1 hc] at h'
 have := (Fl.compare_eq _ _).1.mp (Option.some.inj h')
 exact ⟨hc, this ▸ hw.2.1, hw.2.2⟩
theorem ord_eq' {b c : Nat} (h : Go.FloatKind.f64.format.order b c = some .eq) {n : Int} (hw : Wh c n) : Wh b n := by
 have h' : Ieee.double.order b c = some .eq := h
 have hb : Fl.fin b = true := by
  obtain ⟨s, m, i, ec⟩ := Fl.fin_iff hw.1
  unfold Ieee.Format.order at h'
  rw [ec] at h'
  unfold Fl.fin
  cases e : Ieee.double.read b with
  | number => rfl
  | infinity u => rw [e] at h'; cases u <;> simp [Ieee.Datum.order] at h'
  | nan => rw [e] at h'; simp [Ieee.Datum.order] at h'
 rw [Fl.order_fin hb hw.1] at h'
 have := (Fl.compare_eq _ _).1.mp (Option.some.inj h')
 exact ⟨hb, this ▸ hw.2.1, hw.2.2⟩
theorem oge_iff (o : Option Ordering) : ((o == some .gt || o == some .eq) = true) ↔ o = some .gt ∨ o = some .eq := by
 rcases o with _ | (_ | _ | _) <;> simp <;> decide
theorem ole_iff (o : Option Ordering) : ((o == some .lt || o == some .eq) = true) ↔ o = some .lt ∨ o = some .eq := by
 rcases o with _ | (_ | _ | _) <;> simp <;> decide
theorem oeq_iff (o : Option Ordering) : ((o == some .eq) = true) ↔ o = some .eq := by
 rcases o with _ | (_ | _ | _) <;> simp <;> decide
theorem one_iff (o : Option Ordering) : ((o != some .eq) = true) ↔ o ≠ some .eq := by
 rcases o with _ | (_ | _ | _) <;> simp <;> decide
theorem olt_iff (o : Option Ordering) : ((o == some .lt) = true) ↔ o = some .lt := by
 rcases o with _ | (_ | _ | _) <;> simp <;> decide
theorem ogt_iff (o : Option Ordering) : ((o == some .gt) = true) ↔ o = some .gt := by
 rcases o with _ | (_ | _ | _) <;> simp <;> decide
theorem mid_cut {b : Nat} (h1 : Go.FloatKind.f64.format.order b 13920209174949527552 = some .gt ∨ Go.FloatKind.f64.format.order b 13920209174949527552 = some .eq)
  (h2 : Go.FloatKind.f64.format.order b 4696837138094751744 = some .lt ∨ Go.FloatKind.f64.format.order b 4696837138094751744 = some .eq) :
  Fl.fin b = true ∧ ∃ n : Int, n.natAbs ≤ 999999 ∧ (Ieee.double.read b).toInt .zero = some n ∧ Go.floatToIntVal .f64 b .i64 = some (fTi b) ∧ fTi b = n := by
 rw [← lo_eq] at h1
 rw [← hi_eq] at h2
 have hl := flt_wh (n := -999999) (by decide)
 have hh := flt_wh (n := 999999) (by decide)
 have hf : Fl.fin b = true := Fl.fin_between hl.1 hh.1 h1 h2
 refine ⟨hf, ?_⟩
 have b1 : -((999999 : Nat) * Fl.T) ≤ Fl.fv b := by
  have e : Go.FloatKind.f64.format.order b (flt (-999999)) = some (compare (Fl.fv b) (Fl.fv (flt (-999999)))) := Fl.order_fin hf hl.1
  rw [e, hl.2.1] at h1
  have e2 : -(((999999 : Nat) : Int) * Fl.T) = -999999 * Fl.T := by rw [Int.neg_mul]; rfl
  rw [e2]
  rcases h1 with h | h
  ·exact Int.le_of_lt ((Fl.compare_eq _ _).2.2.mp (Option.some.inj h))
  ·exact Int.le_of_eq ((Fl.compare_eq _ _).1.mp (Option.some.inj h)).symm
 have b2 : Fl.fv b ≤ (999999 : Nat) * Fl.T := by
  have e : Go.FloatKind.f64.format.order b (flt 999999) = some (compare (Fl.fv b) (Fl.fv (flt 999999))) := Fl.order_fin hf hh.1
  rw [e, hh.2.1] at h2
  rcases h2 with h | h
  ·exact Int.le_of_lt ((Fl.compare_eq _ _).2.1.mp (Option.some.inj h))
  ·exact Int.le_of_eq ((Fl.compare_eq _ _).1.mp (Option.some.inj h))
 obtain ⟨n, e1, e2⟩ := Fl.int_le hf b2 b1
 have e3 : Go.floatToIntVal .f64 b .i64 = some n := by
  unfold Go.floatToIntVal
  rw [show (Go.FloatKind.f64.decode b).toInt .zero = some n from e1]
  have g1 : IntKind.i64.min ≤ n := by show -9223372036854775808 ≤ n; omega
  have g2 : n ≤ IntKind.i64.max := by show n ≤ 9223372036854775807; omega
  simp only [g1, g2, and_self, if_true]
 have e4 : fTi b = n := by unfold fTi; rw [e3]; rfl
 exact ⟨n, e2, e1, by rw [e4]; exact e3, e4⟩
theorem wh_range {b : Nat} {n : Int} (h : Wh b n) : (Go.FloatKind.f64.format.order b 13920209174949527552 = some .gt ∨ Go.FloatKind.f64.format.order b 13920209174949527552 = some .eq) ∧ (Go.FloatKind.f64.format.order b 4696837138094751744 = some .lt ∨ Go.FloatKind.f64.format.order b 4696837138094751744 = some .eq) := by
 have hn := h.2.2
 rw [← lo_eq, ← hi_eq, ord_wh h (flt_wh (n := -999999) (by decide)), ord_wh h (flt_wh (n := 999999) (by decide))]
 have c1 := Fl.compare_eq n (-999999)
 have c2 := Fl.compare_eq n 999999
 constructor
 ·by_cases e : n = -999999
  ·exact .inr (by rw [c1.1.mpr e])
  ·exact .inl (by rw [c1.2.2.mpr (by omega)])
 ·by_cases e : n = 999999
  ·exact .inr (by rw [c2.1.mpr e])
  ·exact .inl (by rw [c2.2.1.mpr (by omega)])
theorem wh_test {b : Nat} {n : Int} (hf : Fl.fin b = true) (hn : n.natAbs ≤ 999999) (he : (Ieee.double.read b).toInt .zero = some n) : (Go.FloatKind.f64.format.order (flt n) b = some .eq ↔ ∃ m, Wh b m) ∧ (Go.FloatKind.f64.format.order b (flt n) = some .eq ↔ ∃ m, Wh b m) ∧ ∀ m, Wh b m → m = n := by
 have hw := flt_wh hn
 have only : ∀ m, Wh b m → m = n := fun m hm => by
  have := Fl.int_of hm.1 hm.2.1
  rw [he] at this
  exact (Option.some.inj this).symm
 refine ⟨⟨fun h => ⟨n, ord_eq h hw⟩, fun ⟨m, hm⟩ => ?_⟩, ⟨fun h => ⟨n, ord_eq' h hw⟩, fun ⟨m, hm⟩ => ?_⟩, only⟩
 ·obtain rfl := only m hm
  rw [ord_wh hw hm, (Fl.compare_eq _ _).1.mpr rfl]
 ·obtain rfl := only m hm
  rw [ord_wh hm hw, (Fl.compare_eq _ _).1.mpr rfl]
theorem part_yes {b : Nat} {n : Int} (h : Wh b n) : gauss_part.f b = some (n, true) := by
 obtain ⟨r1, r2⟩ := wh_range h
 obtain ⟨hf, m, h1, h2, h3, h4⟩ := mid_cut r1 r2
 obtain ⟨t1, _, t3⟩ := wh_test hf h1 h2
 obtain rfl := t3 n h
 unfold gauss_part.f
 rw [if_pos ((oge_iff _).mpr r1), if_pos ((ole_iff _).mpr r2), if_pos h3, h4]
 have := t1.mpr ⟨_, h⟩
 unfold flt at this
 rw [this]
 rfl
theorem part_no {b : Nat} (h : ∀ n, ¬ Wh b n) : ∃ n, gauss_part.f b = some (n, false) := by
 unfold gauss_part.f
 by_cases c1 : (Go.FloatKind.f64.format.order b 13920209174949527552 == some .gt || Go.FloatKind.f64.format.order b 13920209174949527552 == some .eq) = true
 ·rw [if_pos c1]
  by_cases c2 : (Go.FloatKind.f64.format.order b 4696837138094751744 == some .lt || Go.FloatKind.f64.format.order b 4696837138094751744 == some .eq) = true
  ·rw [if_pos c2]
   obtain ⟨hf, m, h1, h2, h3, h4⟩ := mid_cut ((oge_iff _).mp c1) ((ole_iff _).mp c2)
   obtain ⟨t1, _, t3⟩ := wh_test hf h1 h2
   rw [if_pos h3, h4]
   refine ⟨m, ?_⟩
   have hn : ¬ (Go.FloatKind.f64.format.order (Go.floatOfInt .f64 m) b == some .eq) = true := fun e => by
    obtain ⟨x, hx⟩ := t1.mp ((oeq_iff _).mp e)
    exact h x hx
   rw [Bool.not_eq_true] at hn
   rw [hn]
  ·rw [if_neg c2]; exact ⟨0, rfl⟩
 ·rw [if_neg c1]; exact ⟨0, rfl⟩
theorem not_nan {b c : Nat} (h : Go.FloatKind.f64.format.order b b = some .eq) (hc : Fl.fin c = true) : Go.FloatKind.f64.format.order b c ≠ none := by
 have h' : Ieee.double.order b b = some .eq := h
 show Ieee.double.order b c ≠ none
 obtain ⟨s, m, i, ec⟩ := Fl.fin_iff hc
 unfold Ieee.Format.order at h' ⊢
 rw [ec]
 cases e : Ieee.double.read b with
 | number => simp [Ieee.Datum.order]
 | infinity u => simp [Ieee.Datum.order]
 | nan => rw [e] at h'; simp [Ieee.Datum.order] at h'
def Zh (z : Nat × Nat) : Option (Int × Int) → Prop
 | some (a, b) => Wh z.1 a ∧ Wh z.2 b
 | none => ∀ a b, ¬ (Wh z.1 a ∧ Wh z.2 b)
theorem zh_any (z : Nat × Nat) : ∃ v, Zh z v := by
 by_cases h : ∃ a b, Wh z.1 a ∧ Wh z.2 b
 ·obtain ⟨a, b, h⟩ := h
  exact ⟨some (a, b), h⟩
 ·exact ⟨none, fun a b hab => h ⟨a, b, hab⟩⟩
theorem Zh.same {z : Nat × Nat} {v u : Option (Int × Int)} (h1 : Zh z v) (h2 : Zh z u) : v = u := by
 rcases v with _ | ⟨a, b⟩ <;> rcases u with _ | ⟨c, d⟩
 ·rfl
 ·exact absurd h2 (h1 c d)
 ·exact absurd h1 (h2 a b)
 ·rw [h1.1.same h2.1, h1.2.same h2.2]
def ztold : Option (Int × Int) → Int × Int × Bool → Prop
 | some (a, b), r => r = (a, b, true)
 | none, r => r.2.2 = false
theorem parts_ev {z : Nat × Nat} {v : Option (Int × Int)} (h : Zh z v) : ∃ r, gauss_parts.f z = some r ∧ ztold v r := by
 unfold gauss_parts.f
 rcases v with _ | ⟨a, b⟩
 ·by_cases h1 : ∃ a, Wh z.1 a
  ·obtain ⟨a, ha⟩ := h1
   obtain ⟨y, hy⟩ := part_no (fun b hb => h a b ⟨ha, hb⟩)
   rw [part_yes ha, hy]
   exact ⟨_, rfl, rfl⟩
  ·obtain ⟨x, hx⟩ := part_no (fun a ha => h1 ⟨a, ha⟩)
   obtain ⟨y, ok, hy⟩ : ∃ y ok, gauss_part.f z.2 = some (y, ok) := by
    by_cases h2 : ∃ b, Wh z.2 b
    ·obtain ⟨b, hb⟩ := h2
     exact ⟨_, _, part_yes hb⟩
    ·obtain ⟨y, hy⟩ := part_no (fun b hb => h2 ⟨b, hb⟩)
     exact ⟨_, _, hy⟩
   rw [hx, hy]
   exact ⟨_, rfl, rfl⟩
 ·rw [part_yes h.1, part_yes h.2]
  exact ⟨_, rfl, rfl⟩
def zref : Option (Int × Int) → Int × Int × Bool
 | some (a, b) => (a, b, true)
 | none => (0, 0, false)
def nrm : Option (Int × Int) → Int
 | some (a, b) => a * a + b * b
 | none => -1
theorem sq_le {a : Int} (h : a.natAbs ≤ 999999) : 0 ≤ a * a ∧ a * a ≤ 999998000001 := by
 have h1 : a * a = ((a.natAbs * a.natAbs : Nat) : Int) := Int.natAbs_mul_self.symm
 have h2 : a.natAbs * a.natAbs ≤ 999999 * 999999 := Nat.mul_le_mul h h
 rw [h1]
 omega
theorem mul_le {a b : Int} (ha : a.natAbs ≤ 999999) (hb : b.natAbs ≤ 999999) : (a * b).natAbs ≤ 999998000001 := by
 rw [Int.natAbs_mul]
 exact Nat.mul_le_mul ha hb
theorem zero_wh : Wh 0 0 := by
 have := flt_wh (n := 0) (by decide)
 rw [zero_eq] at this
 exact this
end Go.Proofs.YtdgnekknmpfepaaGreatDoor.Pure.G
