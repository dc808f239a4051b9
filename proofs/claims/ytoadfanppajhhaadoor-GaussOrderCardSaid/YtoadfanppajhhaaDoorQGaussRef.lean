import Derived.Test.YtoadfanppajhhaaDoorQGaussText
import Derived.Test.YtoadfanppajhhaaDoorP1
import Derived.Test.YtoadfanppajhhaaDoorP3
/- The reference's texts of numbers of two whole parts. -/
namespace Go.Proofs.YtoadfanppajhhaaDoor.Pure
open Go.RowKit Go.Proofs.YtoadfanppajhhaaDoor.P Go.Proofs.YtoadfanppajhhaaDoorW.PrintWords Go.Proofs.YtoadfanppajhhaaDoorW.PrintLast
set_option linter.unusedVariables false
set_option linter.unusedSimpArgs false
theorem one_digit {u : Int} (h0 : 0 ≤ u) (h1 : u < 10) : strOfNums [(wrap64 (48 + u)) % 256] = by_ [UInt8.ofNat (48 + u.toNat)] := by
 rw [w64 (by omega) (by omega)]
 apply ints_inj
 rw [ints_strOfNums (by simp; omega), by_ints]
 have e : (UInt8.ofNat (48 + u.toNat)).toNat = 48 + u.toNat := by rw [UInt8.toNat_ofNat']; omega
 simp only [List.map_cons, List.map_nil, e]
 congr 1
 omega
theorem rdigits_nat (u : Nat) : u ≤ 999999 → Ev (fun k => toponymref14_digits.f k (u : Int)) (by_ (Lib.decDigits u)) := by
 induction u using Nat.strongRecOn with
 | _ u ih =>
  intro hu
  refine Ev.step (fun k => by simp only [toponymref14_digits.f]; rfl) ?_
  refine ev_neg (by omega) ?_
  by_cases h : u < 10
  ·refine ev_pos (by omega) (ev_some ?_)
   rw [one_digit (by omega) (by omega), dec_small h]
   rfl
  ·refine ev_neg (by omega) ?_
   have e1 : Int.tdiv (u : Int) 10 = ((u / 10 : Nat) : Int) := by rw [Int.tdiv_eq_ediv_of_nonneg (by omega)]; rfl
   have e2 : Int.tmod (u : Int) 10 = ((u % 10 : Nat) : Int) := by rw [Int.tmod_eq_emod_of_nonneg (by omega)]; rfl
   rw [e1, w64 (by omega) (by omega), e2]
   refine Ev.bind (ih (u / 10) (by omega) (by omega)) (ev_bind0 rfl ?_)
   rw [one_digit (by omega) (by omega)]
   have hd := dec_len 5 (u / 10) (by omega)
   refine ev_pos (by rw [by_size, by_size]; simp only [List.length_singleton]; omega) (ev_some ?_)
   rw [by_app, dec_big h]
   rfl
theorem rdigits_ev {n : Int} (h : n.natAbs ≤ 999999) : Ev (fun k => toponymref14_digits.f k n) (by_ (Lib.itoa n)) := by
 rw [itoa_form]
 by_cases c : n < 0
 ·rw [if_pos c]
  refine Ev.step (fun k => by simp only [toponymref14_digits.f]; rfl) (ev_pos c ?_)
  rw [w64 (by omega) (by omega)]
  have e : -n = ((n.natAbs : Nat) : Int) := by omega
  rw [e]
  have hd := dec_len 5 n.natAbs (by omega)
  refine Ev.bind (rdigits_nat n.natAbs h) (ev_pos (by rw [by_size]; omega) (ev_some ?_))
  exact by_app [45] _
 ·rw [if_neg c, List.nil_append]
  have e : n = ((n.natAbs : Nat) : Int) := by omega
  have := rdigits_nat n.natAbs h
  rw [← e] at this
  exact this
theorem rtext_ev {a b : Int} (ha : a.natAbs ≤ 999999) (hb : b.natAbs ≤ 999999) : Ev (fun k => toponymref14_Text.f k a b) (by_ (gText a b)) := by
 have l1 := itoa_len ha
 have l2 := itoa_len hb
 have s43 : (⟨#[43]⟩ : ByteArray) = by_ [43] := rfl
 have s105 : (⟨#[105]⟩ : ByteArray) = by_ [105] := rfl
 unfold toponymref14_Text.f gText
 refine ev_ite (fun b0 => ?_) (fun b0 => ?_)
 ·rw [if_pos b0]
  exact Ev.bind (rdigits_ev ha) (Ev.now _)
 rw [if_neg b0]
 refine ev_ite (fun a0 => ?_) (fun a0 => ?_)
 ·rw [if_pos a0]
  refine Ev.bind (rdigits_ev hb) (ev_pos (by rw [by_size]; omega) (ev_some ?_))
  rw [s105, by_app]
 rw [if_neg a0]
 refine ev_ite (fun bp => ?_) (fun bp => ?_)
 ·rw [if_pos bp]
  refine Ev.bind (rdigits_ev ha) (ev_pos (by rw [by_size]; omega) (Ev.bind (rdigits_ev hb) ?_))
  rw [s43, s105, by_app, by_app, by_app]
  refine ev_pos (by rw [by_size, by_size]; simp only [List.length_append, List.length_singleton]; omega) (ev_pos (by rw [by_size]; simp only [List.length_append, List.length_singleton]; omega) (ev_some ?_))
  simp
 ·rw [if_neg bp]
  refine Ev.bind (rdigits_ev ha) (Ev.bind (rdigits_ev hb) ?_)
  rw [s105, by_app, by_app]
  refine ev_pos (by rw [by_size, by_size]; omega) (ev_pos (by rw [by_size]; simp only [List.length_append]; omega) (ev_some ?_))
  simp
theorem rshow_ev {x y : Nat} {v : Option (Int × Int)} (h : Zh (x, y) v) : Ev (fun k => toponymref14_Show.f k x y) (zshow v) := by
 unfold toponymref14_Show.f
 refine ev_bind0 (rparts_ev h) ?_
 rcases v with _ | ⟨a, b⟩
 ·exact ev_neg (by simp [zref]) (Ev.now _)
 ·exact ev_pos rfl (Ev.bind (rtext_ev h.1.2.2 h.2.2.2) (Ev.now _))
theorem range_bt (s : ByteArray) (i : Int) : 0 ≤ bt s i ∧ bt s i ≤ 255 := by
 unfold bt
 split
 ·have := (s[i.toNat]).toNat_lt
  omega
 ·omega
theorem loop_any (s : ByteArray) (hz : s.size < 4611686018427387904) (g : Int) (hg : g = 1 ∨ g = -1) : ∀ (d i : Nat) (v : Int), s.size = i + d → 0 ≤ v → v ≤ 9999999 →
  ∃ (x : Int) (j : Nat), Ev (fun k => toponymref14_take.l0 k s (i : Int) g v) (x, (j : Int)) ∧ i ≤ j ∧ j ≤ s.size := by
 intro d
 induction d with
 | zero =>
  intro i v h1 h2 h3
  exact ⟨_, i, Ev.step (fun k => by simp only [toponymref14_take.l0]; rfl) (ev_neg (by omega) (Ev.now _)), by omega, by omega⟩
 | succ d ih =>
  intro i v h1 h2 h3
  have e2 : wrap64 ((i : Int) + 1) = ((i + 1 : Nat) : Int) := by
   rw [w64 (by omega) (by omega)]
   omega
  have hb := range_bt s (i : Int)
  by_cases g2 : bt s (i : Int) ≥ 48
  ·by_cases g3 : bt s (i : Int) ≤ 57
   ·by_cases g4 : v < 1000000
    ·have e : wrap64 ((wrap64 ((wrap64 (10 * v)) + (wrap64 (bt s (i : Int))))) - 48) = 10 * v + bt s (i : Int) - 48 := by
      rw [w64 (x := 10 * v) (by omega) (by omega), w64 (x := bt s (i : Int)) (by omega) (by omega), w64 (x := 10 * v + bt s (i : Int)) (by omega) (by omega), w64 (by omega) (by omega)]
     obtain ⟨x, j, hr, h5, h6⟩ := ih (i + 1) (10 * v + bt s (i : Int) - 48) (by omega) (by omega) (by omega)
     refine ⟨x, j, Ev.step (fun k => by simp only [toponymref14_take.l0]; rfl) (ev_pos (by omega) (ev_pos (by omega) (ev_pos g2 (ev_pos g3 (ev_pos g4 ?_))))), by omega, h6⟩
     rw [e, e2]
     exact hr
    ·exact ⟨_, i, Ev.step (fun k => by simp only [toponymref14_take.l0]; rfl) (ev_pos (by omega) (ev_pos (by omega) (ev_pos g2 (ev_pos g3 (ev_neg g4 (Ev.now _)))))), by omega, by omega⟩
   ·exact ⟨_, i, Ev.step (fun k => by simp only [toponymref14_take.l0]; rfl) (ev_pos (by omega) (ev_pos (by omega) (ev_pos g2 (ev_neg g3 (Ev.now _))))), by omega, by omega⟩
  ·exact ⟨_, i, Ev.step (fun k => by simp only [toponymref14_take.l0]; rfl) (ev_pos (by omega) (ev_pos (by omega) (ev_neg g2 (Ev.now _)))), by omega, by omega⟩
theorem take_any (s : ByteArray) (hz : s.size < 4611686018427387904) (i : Nat) (hi : i ≤ s.size) : ∃ (x : Int) (j : Nat), Ev (fun k => toponymref14_take.f k s (i : Int)) (x, (j : Int)) ∧ i ≤ j ∧ j ≤ s.size := by
 unfold toponymref14_take.f
 have plain : ∃ (x : Int) (j : Nat), Ev (fun k => toponymref14_take.j0 k s (i : Int) 1 false) (x, (j : Int)) ∧ i ≤ j ∧ j ≤ s.size := by
  obtain ⟨x, j, h1, h2, h3⟩ := loop_any s hz 1 (.inl rfl) (s.size - i) i 0 (by omega) (by omega) (by omega)
  exact ⟨x, j, Ev.step (fun k => by simp only [toponymref14_take.j0]; rfl) (ev_neg (by simp) (Ev.step (fun k => by simp only [toponymref14_take.j1] <;> rfl) h1)), h2, h3⟩
 by_cases c : (i : Int) < (s.size : Int)
 ·by_cases m : (bt s (i : Int) == 45) = true
  ·obtain ⟨x, j, h1, h2, h3⟩ := loop_any s hz (-1) (.inr rfl) (s.size - (i + 1)) (i + 1) 0 (by omega) (by omega) (by omega)
   refine ⟨x, j, ev_pos c (ev_pos (by omega) ?_), by omega, h3⟩
   rw [m]
   refine Ev.step (fun k => by simp only [toponymref14_take.j0]; rfl) (ev_pos (c := (true = true)) rfl (Ev.step (fun k => by simp only [toponymref14_take.j1] <;> rfl) ?_))
   rw [w64 (by omega) (by omega)]
   exact_mod_cast h1
  ·rw [Bool.not_eq_true] at m
   obtain ⟨x, j, h1, h2, h3⟩ := plain
   refine ⟨x, j, ev_pos c (ev_pos (by omega) ?_), h2, h3⟩
   rw [m]
   exact h1
 ·obtain ⟨x, j, h1, h2, h3⟩ := plain
  exact ⟨x, j, ev_neg c h1, h2, h3⟩
def stops (l : List Int) : Prop := ∀ c r, l = c :: r → c < 48 ∨ 57 < c
theorem loop_digits (s : ByteArray) (hz : s.size ≤ 1000) (g : Int) (R : Int × Int) (u : Nat) : u ≤ 999999 → ∀ (pre suf : List Int), ints s = pre ++ ((Lib.decDigits u).map fun b => (b.toNat : Int)) ++ suf →
  Ev (fun k => toponymref14_take.l0 k s ((pre.length + (Lib.decDigits u).length : Nat) : Int) g (u : Int)) R → Ev (fun k => toponymref14_take.l0 k s (pre.length : Int) g 0) R := by
 induction u using Nat.strongRecOn with
 | _ u ih =>
  intro hu pre suf hs h
  have step : ∀ (p q : List Int) (c : Nat) (v : Nat), ints s = p ++ (48 + (c : Int)) :: q → c ≤ 9 → v ≤ 99999 → Ev (fun k => toponymref14_take.l0 k s ((p.length + 1 : Nat) : Int) g ((10 * v + c : Nat) : Int)) R → Ev (fun k => toponymref14_take.l0 k s (p.length : Int) g (v : Int)) R := by
   intro p q c v hp hc hv gg
   have hlen : s.size = p.length + q.length + 1 := by
    rw [← ints_length, hp]
    simp
    omega
   refine Ev.step (fun k => by simp only [toponymref14_take.l0]; rfl) (ev_pos (by omega) (ev_pos (by omega) ?_))
   rw [bt_mid hp]
   refine ev_pos (by omega) (ev_pos (by omega) (ev_pos (by omega) ?_))
   have e : wrap64 ((wrap64 ((wrap64 (10 * (v : Int))) + (wrap64 (48 + (c : Int))))) - 48) = ((10 * v + c : Nat) : Int) := by
    rw [w64 (x := 10 * (v : Int)) (by omega) (by omega), w64 (x := 48 + (c : Int)) (by omega) (by omega), w64 (x := 10 * (v : Int) + (48 + (c : Int))) (by omega) (by omega), w64 (by omega) (by omega)]
    omega
   have e2 : wrap64 ((p.length : Int) + 1) = ((p.length + 1 : Nat) : Int) := by
    rw [w64 (by omega) (by omega)]
    omega
   rw [e, e2]
   exact gg
  by_cases h1 : u < 10
  ·rw [dec_small h1] at hs h
   refine step pre suf u 0 ?_ (by omega) (by omega) ?_
   ·rw [hs]
    simp
    omega
   ·simpa using h
  ·rw [dec_big h1] at hs h
   refine ih (u / 10) (by omega) (by omega) pre ((48 + ((u % 10 : Nat) : Int)) :: suf) ?_ ?_
   ·rw [hs]
    simp
    omega
   ·have hl : ((pre.length + (Lib.decDigits (u / 10)).length : Nat) : Int) = ((pre ++ ((Lib.decDigits (u / 10)).map fun b => (b.toNat : Int))).length : Int) := by simp
    rw [hl]
    refine step _ suf (u % 10) (u / 10) ?_ (by omega) (by omega) ?_
    ·rw [hs]
     simp
     omega
    ·have e : 10 * (u / 10) + u % 10 = u := by omega
     rw [e]
     simpa [Nat.add_assoc] using h
theorem loop_stop (s : ByteArray) (hz : s.size ≤ 1000) (g : Int) (v : Int) (pre suf : List Int) (hs : ints s = pre ++ suf) (hst : stops suf) : Ev (fun k => toponymref14_take.l0 k s (pre.length : Int) g v) (wrap64 (g * v), (pre.length : Int)) := by
 have hlen : s.size = pre.length + suf.length := by rw [← ints_length, hs, List.length_append]
 refine Ev.step (fun k => by simp only [toponymref14_take.l0]; rfl) ?_
 cases suf with
 | nil => exact ev_neg (by simp only [List.length_nil] at hlen; omega) (Ev.now _)
 | cons c r =>
  simp only [List.length_cons] at hlen
  refine ev_pos (by omega) (ev_pos (by omega) ?_)
  rw [bt_mid hs]
  rcases hst c r rfl with h | h
  ·exact ev_neg (by omega) (Ev.now _)
  ·refine ev_ite (fun _ => ?_) (fun _ => Ev.now _)
   exact ev_neg (by omega) (Ev.now _)
theorem take_itoa (s : ByteArray) (hz : s.size ≤ 1000) {n : Int} (hn : n.natAbs ≤ 999999) (pre suf : List Int) (hs : ints s = pre ++ ((Lib.itoa n).map fun b => (b.toNat : Int)) ++ suf) (hst : stops suf) :
  Ev (fun k => toponymref14_take.f k s (pre.length : Int)) (n, ((pre.length + (Lib.itoa n).length : Nat) : Int)) := by
 have hp := itoa_pos n
 have hlen : s.size = pre.length + (Lib.itoa n).length + suf.length := by rw [← ints_length, hs]; simp; omega
 unfold toponymref14_take.f
 refine ev_pos (by omega) (ev_pos (by omega) ?_)
 rw [itoa_form] at hs hlen ⊢
 by_cases c : n < 0
 ·rw [if_pos c] at hs hlen ⊢
  have h45 : ints s = pre ++ 45 :: (((Lib.decDigits n.natAbs).map fun b => (b.toNat : Int)) ++ suf) := by rw [hs]; simp
  rw [bt_mid h45]
  refine Ev.step (fun k => by simp only [toponymref14_take.j0]; rfl) ?_
  refine ev_pos rfl (Ev.step (fun k => by simp only [toponymref14_take.j1] <;> rfl) ?_)
  rw [w64 (by omega) (by omega)]
  have hl : ((pre.length : Int) + 1) = ((pre ++ [45]).length : Int) := by simp
  rw [hl]
  refine loop_digits s hz (-1) _ n.natAbs hn (pre ++ [45]) suf (by rw [hs]; simp) ?_
  have h2 := loop_stop s hz (-1) (n.natAbs : Int) (pre ++ [45] ++ ((Lib.decDigits n.natAbs).map fun b => (b.toNat : Int))) suf (by rw [hs]; simp) hst
  rw [w64 (by omega) (by omega)] at h2
  have e : -1 * ((n.natAbs : Nat) : Int) = n := by omega
  rw [e] at h2
  simpa [Nat.add_assoc, Int.add_comm 1] using h2
 ·rw [if_neg c, List.nil_append] at hs hlen ⊢
  obtain ⟨d, r, hd⟩ : ∃ d r, Lib.decDigits n.natAbs = d :: r := by
   cases e : Lib.decDigits n.natAbs with
   | nil => exact absurd e (dec_ne _)
   | cons d r => exact ⟨d, r, rfl⟩
  have hdd := dec_digit n.natAbs d (by rw [hd]; simp)
  have h1 : ints s = pre ++ (d.toNat : Int) :: ((r.map fun b => (b.toNat : Int)) ++ suf) := by rw [hs, hd]; simp
  rw [bt_mid h1]
  have e45 : (((d.toNat : Nat) : Int) == 45) = false := by rw [beq_eq_false_iff_ne]; omega
  rw [e45]
  refine Ev.step (fun k => by simp only [toponymref14_take.j0]; rfl) (ev_neg (by simp) (Ev.step (fun k => by simp only [toponymref14_take.j1] <;> rfl) ?_))
  refine loop_digits s hz 1 _ n.natAbs hn pre suf hs ?_
  have h2 := loop_stop s hz 1 (n.natAbs : Int) (pre ++ ((Lib.decDigits n.natAbs).map fun b => (b.toNat : Int))) suf (by rw [hs]) hst
  rw [w64 (by omega) (by omega)] at h2
  have e : 1 * ((n.natAbs : Nat) : Int) = n := by omega
  rw [e] at h2
  simpa using h2
def rtold (s : ByteArray) (r : Int × Int × Int) : Prop := r = (0, 0, 140) ∨ ∃ a b, a.natAbs ≤ 999999 ∧ b.natAbs ≤ 999999 ∧ by_ (gText a b) = s ∧ r = (a, b, 0)
theorem check_any (s : ByteArray) (a b : Int) : ∃ r, Ev (fun k => (if a < (-999999) then (some (0, 0, 140)) else (if a > 999999 then (some (0, 0, 140)) else (if b < (-999999) then (some (0, 0, 140)) else (if b > 999999 then (some (0, 0, 140)) else ((toponymref14_Text.f k a b).bind fun t => (if t.toList = s.toList then (some (a, b, 0)) else (some (0, 0, 140))))))) : Option (Int × Int × Int))) r ∧ rtold s r ∧ (a.natAbs ≤ 999999 → b.natAbs ≤ 999999 → by_ (gText a b) = s → r = (a, b, 0)) := by
 have no : rtold s (0, 0, 140) := .inl rfl
 by_cases c1 : a < -999999
 ·exact ⟨_, ev_pos c1 (Ev.now _), no, fun h _ _ => by omega⟩
 by_cases c2 : a > 999999
 ·exact ⟨_, ev_neg c1 (ev_pos c2 (Ev.now _)), no, fun h _ _ => by omega⟩
 by_cases c3 : b < -999999
 ·exact ⟨_, ev_neg c1 (ev_neg c2 (ev_pos c3 (Ev.now _))), no, fun _ h _ => by omega⟩
 by_cases c4 : b > 999999
 ·exact ⟨_, ev_neg c1 (ev_neg c2 (ev_neg c3 (ev_pos c4 (Ev.now _)))), no, fun _ h _ => by omega⟩
 have ha : a.natAbs ≤ 999999 := by omega
 have hb : b.natAbs ≤ 999999 := by omega
 by_cases c5 : (by_ (gText a b)).toList = s.toList
 ·exact ⟨(a, b, 0), ev_neg c1 (ev_neg c2 (ev_neg c3 (ev_neg c4 (Ev.bind (rtext_ev ha hb) (ev_pos c5 (Ev.now _)))))), .inr ⟨a, b, ha, hb, toList_eq c5, rfl⟩, fun _ _ _ => rfl⟩
 ·exact ⟨(0, 0, 140), ev_neg c1 (ev_neg c2 (ev_neg c3 (ev_neg c4 (Ev.bind (rtext_ev ha hb) (ev_neg c5 (Ev.now _)))))), no, fun _ _ h => absurd (by rw [h]) c5⟩
theorem j1_any (s : ByteArray) (hz : s.size < 4611686018427387904) (i : Nat) (hi : i ≤ s.size) (a : Int) : ∃ r, Ev (fun k => toponymref14_Parse.j1 k s (i : Int) a) r ∧ rtold s r := by
 obtain ⟨b, j, h1, _, _⟩ := take_any s hz i hi
 obtain ⟨r, h2, h3, _⟩ := check_any s a b
 exact ⟨r, Ev.step (fun k => by simp only [toponymref14_Parse.j1]; rfl) (Ev.bind h1 h2), h3⟩
theorem rparse_any (s : ByteArray) (hz : s.size < 4611686018427387904) : ∃ r, Ev (fun k => toponymref14_Parse.f k s) r ∧ rtold s r := by
 unfold toponymref14_Parse.f
 obtain ⟨x, j, h1, _, h3⟩ := take_any s hz 0 (by omega)
 have j0t : ∃ r, Ev (fun k => toponymref14_Parse.j0 k s x (j : Int) x 0 true) r ∧ rtold s r := by
  obtain ⟨r, g1, g2, _⟩ := check_any s 0 x
  refine ⟨r, Ev.step (fun k => by simp only [toponymref14_Parse.j0]; rfl) (ev_pos (c := (true = true)) rfl ?_), g2⟩
  simpa using g1
 have j0f : ∃ r, Ev (fun k => toponymref14_Parse.j0 k s x (j : Int) x 0 false) r ∧ rtold s r := by
  by_cases c : (j : Int) < (s.size : Int)
  ·by_cases g : bt s (j : Int) = 43
   ·obtain ⟨r, e, t⟩ := j1_any s hz (j + 1) (by omega) x
    refine ⟨r, Ev.step (fun k => by simp only [toponymref14_Parse.j0]; rfl) (ev_neg (by simp) (ev_pos c (ev_pos (by omega) (ev_pos g ?_)))), t⟩
    rw [w64 (by omega) (by omega)]
    exact_mod_cast e
   ·obtain ⟨r, e, t⟩ := j1_any s hz j h3 x
    exact ⟨r, Ev.step (fun k => by simp only [toponymref14_Parse.j0]; rfl) (ev_neg (by simp) (ev_pos c (ev_pos (by omega) (ev_neg g e)))), t⟩
  ·obtain ⟨r, g1, g2, _⟩ := check_any s x 0
   exact ⟨r, Ev.step (fun k => by simp only [toponymref14_Parse.j0]; rfl) (ev_neg (by simp) (ev_neg c g1)), g2⟩
 by_cases c : (j : Int) < (s.size : Int)
 ·cases m : (bt s (j : Int) == 105)
  ·obtain ⟨r, e, t⟩ := j0f
   refine ⟨r, Ev.bind h1 (ev_pos c (ev_pos (by omega) ?_)), t⟩
   try dsimp only
   rw [m]
   exact e
  ·obtain ⟨r, e, t⟩ := j0t
   refine ⟨r, Ev.bind h1 (ev_pos c (ev_pos (by omega) ?_)), t⟩
   try dsimp only
   rw [m]
   exact e
 ·obtain ⟨r, e, t⟩ := j0f
  exact ⟨r, Ev.bind h1 (ev_neg c e), t⟩
theorem rparse_txt {a b : Int} (ha : a.natAbs ≤ 999999) (hb : b.natAbs ≤ 999999) : Ev (fun k => toponymref14_Parse.f k (by_ (gText a b))) (a, b, 0) := by
 have hl := gText_len ha hb
 have hz : (by_ (gText a b)).size ≤ 1000 := by rw [by_size]; omega
 have done : ∀ x y : Int, x = a → y = b → Ev (fun k => (if x < (-999999) then (some (0, 0, 140)) else (if x > 999999 then (some (0, 0, 140)) else (if y < (-999999) then (some (0, 0, 140)) else (if y > 999999 then (some (0, 0, 140)) else ((toponymref14_Text.f k x y).bind fun t => (if t.toList = (by_ (gText a b)).toList then (some (x, y, 0)) else (some (0, 0, 140))))))) : Option (Int × Int × Int))) (a, b, 0) := by
  intro x y e1 e2
  subst e1 e2
  obtain ⟨r, h1, _, h3⟩ := check_any (by_ (gText x y)) x y
  rw [h3 ha hb rfl] at h1
  exact h1
 have la := itoa_pos a
 have la7 := itoa_len ha
 have lb7 := itoa_len hb
 have stop_nil : stops [] := fun c r h => by cases h
 have stop_one : ∀ (c : Int) (r : List Int), (c < 48 ∨ 57 < c) → stops (c :: r) := fun c r h c' r' e => by cases e; exact h
 unfold toponymref14_Parse.f
 by_cases b0 : b = 0
 ·have e : gText a b = Lib.itoa a := by unfold gText; rw [if_pos b0]
  have ht := take_itoa (by_ (gText a b)) hz ha [] [] (by rw [by_ints, e]; simp) stop_nil
  refine Ev.bind (a := (a, ((([] : List Int).length + (Lib.itoa a).length : Nat) : Int))) (by simpa using ht) (ev_neg (by (try dsimp only); rw [by_size, e]; simp) ?_)
  refine Ev.step (fun k => by simp only [toponymref14_Parse.j0]; rfl) (ev_neg (by simp) (ev_neg (by (try dsimp only); rw [by_size, e]; simp) ?_))
  exact done a 0 rfl b0.symm
 by_cases a0 : a = 0
 ·have e : gText a b = Lib.itoa b ++ [105] := by unfold gText; rw [if_neg b0, if_pos a0]
  have hs : ints (by_ (gText a b)) = [] ++ ((Lib.itoa b).map fun b => (b.toNat : Int)) ++ [105] := by rw [by_ints, e]; simp
  have ht := take_itoa (by_ (gText a b)) hz hb [] [105] hs (stop_one _ _ (by omega))
  have hc : bt (by_ (gText a b)) ((Lib.itoa b).length : Int) = 105 := by
   have := bt_mid (s := by_ (gText a b)) (pre := (Lib.itoa b).map fun b => (b.toNat : Int)) (suf := []) (c := 105) (by rw [hs]; simp)
   simpa using this
  refine Ev.bind (a := (b, ((Lib.itoa b).length : Int))) (by simpa using ht) (ev_pos (by (try dsimp only); rw [by_size, e]; simp; omega) (ev_pos (by (try dsimp only); omega) ?_))
  try dsimp only
  rw [hc]
  refine Ev.step (fun k => by simp only [toponymref14_Parse.j0]; rfl) ?_
  refine ev_pos rfl ?_
  have := done 0 b a0.symm rfl
  simpa using this
 have hlb := itoa_pos b
 by_cases bp : b > 0
 ·have e : gText a b = Lib.itoa a ++ ([43] ++ (Lib.itoa b ++ [105])) := by unfold gText; rw [if_neg b0, if_neg a0, if_pos bp]
  have hs : ints (by_ (gText a b)) = [] ++ ((Lib.itoa a).map fun b => (b.toNat : Int)) ++ (43 :: (((Lib.itoa b).map fun b => (b.toNat : Int)) ++ [105])) := by rw [by_ints, e]; simp
  have ht := take_itoa (by_ (gText a b)) hz ha [] _ hs (stop_one _ _ (by omega))
  have hc : bt (by_ (gText a b)) ((Lib.itoa a).length : Int) = 43 := by
   have := bt_mid (s := by_ (gText a b)) (pre := (Lib.itoa a).map fun b => (b.toNat : Int)) (suf := ((Lib.itoa b).map fun b => (b.toNat : Int)) ++ [105]) (c := 43) (by rw [hs]; simp)
   simpa using this
  refine Ev.bind (a := (a, ((Lib.itoa a).length : Int))) (by simpa using ht) (ev_pos (by (try dsimp only); rw [by_size, e]; simp; omega) (ev_pos (by (try dsimp only); omega) ?_))
  try dsimp only
  rw [hc]
  refine Ev.step (fun k => by simp only [toponymref14_Parse.j0]; rfl) (ev_neg (by decide) (ev_pos (by rw [by_size, e]; simp; omega) (ev_pos (by omega) (ev_pos hc ?_))))
  rw [w64 (by omega) (by omega)]
  have h2 := take_itoa (by_ (gText a b)) hz hb (((Lib.itoa a).map fun b => (b.toNat : Int)) ++ [43]) [105] (by rw [hs]; simp) (stop_one _ _ (by omega))
  refine Ev.step (fun k => by simp only [toponymref14_Parse.j1]; rfl) (Ev.bind (a := (b, (((((Lib.itoa a).map fun (x : UInt8) => (x.toNat : Int)) ++ [43]).length + (Lib.itoa b).length : Nat) : Int))) (by simpa using h2) ?_)
  exact done a b rfl rfl
 ·have e : gText a b = Lib.itoa a ++ (Lib.itoa b ++ [105]) := by unfold gText; rw [if_neg b0, if_neg a0, if_neg bp]
  obtain ⟨c, r, ec, g1, g2, g3⟩ := itoa_tail b
  have hc45 := g2 (by omega)
  subst hc45
  have hs : ints (by_ (gText a b)) = [] ++ ((Lib.itoa a).map fun b => (b.toNat : Int)) ++ (((Lib.itoa b).map fun b => (b.toNat : Int)) ++ [105]) := by rw [by_ints, e]; simp
  have hs2 : ints (by_ (gText a b)) = ((Lib.itoa a).map fun b => (b.toNat : Int)) ++ 45 :: ((r.map fun b => (b.toNat : Int)) ++ [105]) := by rw [hs, ec]; simp
  have ht := take_itoa (by_ (gText a b)) hz ha [] (((Lib.itoa b).map fun b => (b.toNat : Int)) ++ [105]) hs (by rw [ec]; exact stop_one _ _ (by show (45 : Int) < 48 ∨ _; omega))
  have hc : bt (by_ (gText a b)) ((Lib.itoa a).length : Int) = 45 := by
   have := bt_mid hs2
   simpa using this
  refine Ev.bind (a := (a, ((Lib.itoa a).length : Int))) (by simpa using ht) (ev_pos (by (try dsimp only); rw [by_size, e]; simp; omega) (ev_pos (by (try dsimp only); omega) ?_))
  try dsimp only
  rw [hc]
  refine Ev.step (fun k => by simp only [toponymref14_Parse.j0]; rfl) (ev_neg (by decide) (ev_pos (by rw [by_size, e]; simp; omega) (ev_pos (by omega) (ev_neg (by rw [hc]; omega) ?_))))
  have h2 := take_itoa (by_ (gText a b)) hz hb ((Lib.itoa a).map fun b => (b.toNat : Int)) [105] (by rw [hs]; simp) (stop_one _ _ (by omega))
  refine Ev.step (fun k => by simp only [toponymref14_Parse.j1]; rfl) (Ev.bind (a := (b, ((((Lib.itoa a).map fun (x : UInt8) => (x.toNat : Int)).length + (Lib.itoa b).length : Nat) : Int))) (by simpa using h2) ?_)
  exact done a b rfl rfl
end Go.Proofs.YtoadfanppajhhaaDoor.Pure
