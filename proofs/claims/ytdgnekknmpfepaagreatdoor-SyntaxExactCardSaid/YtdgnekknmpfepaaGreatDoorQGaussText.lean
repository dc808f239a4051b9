import Derived.Test.YtdgnekknmpfepaaGreatDoorQGauss
import Derived.Test.YtdgnekknmpfepaaGreatDoorQBytes
import Derived.Lib.LastIndexByte
import Derived.Test.YtdgnekknmpfepaaGreatDoorP7
import Derived.Test.YtdgnekknmpfepaaGreatDoorP8
/- The texts of numbers of two whole parts: written and read. -/
namespace Go.Proofs.YtdgnekknmpfepaaGreatDoor.Pure.G
open Go.RowKit Go.Proofs.YtdgnekknmpfepaaGreatDoor.P Go.Proofs.YtdgnekknmpfepaaGreatDoorW.PrintWords Go.Proofs.YtdgnekknmpfepaaGreatDoorW.PrintLast
set_option linter.unusedVariables false
set_option linter.unusedSimpArgs false
def by_ (l : List UInt8) : ByteArray := ⟨l.toArray⟩
theorem by_size (l : List UInt8) : (by_ l).size = l.length := by show l.toArray.size = _; simp
theorem by_ints (l : List UInt8) : ints (by_ l) = l.map fun b => (b.toNat : Int) := by simp [ints, by_]
theorem by_app (l m : List UInt8) : by_ l ++ by_ m = by_ (l ++ m) := by
 apply ints_inj
 rw [ints_append, by_ints, by_ints, by_ints, List.map_append]
theorem by_self (s : ByteArray) : by_ s.data.toList = s := by apply ints_inj; rw [by_ints]; rfl
theorem by_toList (l : List UInt8) : (by_ l).toList = l := by rw [Lib.toList_data]; rfl
theorem by_inj {l m : List UInt8} (h : by_ l = by_ m) : l = m := by rw [← by_toList l, h, by_toList]
theorem by_extract (l : List UInt8) (i j : Nat) : (by_ l).extract i j = by_ ((l.drop i).take (j - i)) := by
 apply ints_inj
 rw [ints_extract, by_ints, by_ints, List.map_take, List.map_drop]
theorem by_at (l : List UInt8) (j : Nat) (h : j < l.length) : ((by_ l).data[j]!) = l[j] := by
 show l.toArray[j]! = _
 simp [h]
theorem dec_small {u : Nat} (h : u < 10) : Lib.decDigits u = [UInt8.ofNat (48 + u)] := by rw [Lib.decDigits, dif_pos h]
theorem dec_big {u : Nat} (h : ¬ u < 10) : Lib.decDigits u = Lib.decDigits (u / 10) ++ [UInt8.ofNat (48 + u % 10)] := by rw [Lib.decDigits, dif_neg h]
theorem dec_ne (u : Nat) : Lib.decDigits u ≠ [] := by
 by_cases h : u < 10
 ·rw [dec_small h]; simp
 ·rw [dec_big h]; simp
theorem dec_len : ∀ (k u : Nat), u < 10 ^ (k + 1) → (Lib.decDigits u).length ≤ k + 1
 | 0, u, h => by rw [dec_small (by simpa using h)]; simp
 | k + 1, u, h => by
  by_cases h1 : u < 10
  ·rw [dec_small h1]; simp
  ·rw [dec_big h1, List.length_append, List.length_singleton]
   have := dec_len k (u / 10) (by rw [Nat.pow_succ] at h; omega)
   omega
theorem dec_digit (u : Nat) : ∀ c ∈ Lib.decDigits u, 48 ≤ c.toNat ∧ c.toNat ≤ 57 := by
 induction u using Nat.strongRecOn with
 | _ u ih =>
  intro c hc
  by_cases h : u < 10
  ·rw [dec_small h, List.mem_singleton] at hc
   subst hc
   rw [UInt8.toNat_ofNat']
   omega
  ·rw [dec_big h, List.mem_append, List.mem_singleton] at hc
   rcases hc with hc | rfl
   ·exact ih (u / 10) (by omega) c hc
   ·rw [UInt8.toNat_ofNat']
    omega
theorem itoa_form (n : Int) : Lib.itoa n = (if n < 0 then [45] else []) ++ Lib.decDigits n.natAbs := by
 unfold Lib.itoa
 by_cases h : n < 0
 ·rw [if_pos h, if_pos h]; rfl
 ·rw [if_neg h, if_neg h]
  have : n.toNat = n.natAbs := by omega
  rw [this]; rfl
theorem itoa_len {n : Int} (h : n.natAbs ≤ 999999) : (Lib.itoa n).length ≤ 7 := by
 have := dec_len 5 n.natAbs (by omega)
 rw [itoa_form, List.length_append]
 split <;> simp <;> omega
theorem itoa_pos (n : Int) : 0 < (Lib.itoa n).length := by
 have := List.length_pos_iff.mpr (dec_ne n.natAbs)
 rw [itoa_form, List.length_append]
 omega
theorem itoa_char {n : Int} : ∀ c ∈ Lib.itoa n, c.toNat = 45 ∨ (48 ≤ c.toNat ∧ c.toNat ≤ 57) := by
 intro c hc
 rw [itoa_form, List.mem_append] at hc
 rcases hc with hc | hc
 ·split at hc
  ·obtain rfl : c = 45 := by simpa using hc
   exact .inl rfl
  ·simp at hc
 ·exact .inr (dec_digit _ c hc)
theorem itoa_no {n : Int} (d : UInt8) (h1 : d.toNat ≠ 45) (h2 : d.toNat < 48 ∨ 57 < d.toNat) : ∀ c ∈ Lib.itoa n, c ≠ d := by
 intro c hc e
 subst e
 rcases itoa_char c hc with h | h <;> omega
theorem val_digit {c : UInt8} (h : 48 ≤ c.toNat ∧ c.toNat ≤ 57) : Lib.digitVal c = some (c.toNat - 48) := by unfold Lib.digitVal; rw [if_pos h]
theorem decFrom_app (l : List UInt8) : ∀ (acc v : Nat) (c : UInt8), Lib.decFrom acc l = some v → (48 ≤ c.toNat ∧ c.toNat ≤ 57) → Lib.decFrom acc (l ++ [c]) = some (v * 10 + (c.toNat - 48)) := by
 induction l with
 | nil =>
  intro acc v c h hc
  obtain rfl := Option.some.inj h
  simp [Lib.decFrom, val_digit hc]
 | cons a t ih =>
  intro acc v c h hc
  simp only [List.cons_append, Lib.decFrom] at h ⊢
  cases hd : Lib.digitVal a with
  | none => rw [hd] at h; cases h
  | some d =>
   rw [hd] at h
   exact ih _ _ _ h hc
theorem decFrom_one {c : UInt8} {d : Nat} (h : Lib.digitVal c = some d) : Lib.decFrom 0 [c] = some d := by
 show (match Lib.digitVal c with | some d => Lib.decFrom (0 * 10 + d) [] | none => none) = some d
 rw [h]
 simp [Lib.decFrom]
theorem atoi_cons (b : UInt8) (r : List UInt8) : Lib.atoi (b :: r) = if (b == 45) = true then (Lib.decNat r).map (fun (m : Nat) => -(m : Int)) else if (b == 43) = true then (Lib.decNat r).map (fun (m : Nat) => (m : Int)) else (Lib.decNat (b :: r)).map (fun (m : Nat) => (m : Int)) := rfl
theorem decFrom_dec (u : Nat) : Lib.decFrom 0 (Lib.decDigits u) = some u := by
 induction u using Nat.strongRecOn with
 | _ u ih =>
  by_cases h : u < 10
  ·rw [dec_small h]
   have e : (UInt8.ofNat (48 + u)).toNat = 48 + u := by rw [UInt8.toNat_ofNat']; omega
   rw [decFrom_one (val_digit (c := UInt8.ofNat (48 + u)) (by rw [e]; omega)), e]
   congr 1
   omega
  ·have e : (UInt8.ofNat (48 + u % 10)).toNat = 48 + u % 10 := by rw [UInt8.toNat_ofNat']; omega
   rw [dec_big h, decFrom_app _ _ _ _ (ih (u / 10) (by omega)) (by rw [e]; omega), e]
   congr 1
   omega
theorem decNat_dec (u : Nat) : Lib.decNat (Lib.decDigits u) = some u := by
 unfold Lib.decNat
 have : (Lib.decDigits u).isEmpty = false := by
  have := dec_ne u
  cases h : Lib.decDigits u with
  | nil => exact absurd h this
  | cons => rfl
 rw [this]
 exact decFrom_dec u
theorem atoi_itoa (n : Int) : Lib.atoi (Lib.itoa n) = some n := by
 rw [itoa_form]
 by_cases h : n < 0
 ·rw [if_pos h]
  show Lib.atoi (45 :: Lib.decDigits n.natAbs) = some n
  rw [atoi_cons, if_pos (by decide), decNat_dec]
  simp only [Option.map_some]
  congr 1
  omega
 ·rw [if_neg h, List.nil_append]
  have hn : ((n.natAbs : Nat) : Int) = n := by omega
  cases hd : Lib.decDigits n.natAbs with
  | nil => exact absurd hd (dec_ne _)
  | cons c r =>
   have hc := dec_digit n.natAbs c (by rw [hd]; simp)
   have h1 : ¬ ((c == 45) = true) := by
    intro e
    rw [beq_iff_eq] at e
    subst e
    exact absurd hc.1 (by decide)
   have h2 : ¬ ((c == 43) = true) := by
    intro e
    rw [beq_iff_eq] at e
    subst e
    exact absurd hc.1 (by decide)
   rw [atoi_cons, if_neg h1, if_neg h2, ← hd, decNat_dec]
   simp [hn]
theorem decFrom_lt (l : List UInt8) : ∀ (acc v : Nat), Lib.decFrom acc l = some v → v < (acc + 1) * 10 ^ l.length := by
 induction l with
 | nil => intro acc v h; obtain rfl := Option.some.inj h; simp
 | cons a t ih =>
  intro acc v h
  simp only [Lib.decFrom] at h
  cases hd : Lib.digitVal a with
  | none => rw [hd] at h; cases h
  | some d =>
   rw [hd] at h
   have hd9 : d ≤ 9 := by
    unfold Lib.digitVal at hd
    split at hd
    ·have := Option.some.inj hd; omega
    ·cases hd
   have := ih _ _ h
   rw [List.length_cons, Nat.pow_succ, Nat.mul_comm (10 ^ t.length) 10, ← Nat.mul_assoc]
   exact Nat.lt_of_lt_of_le this (Nat.mul_le_mul_right _ (by omega))
theorem decNat_lt {l : List UInt8} {v : Nat} (h : Lib.decNat l = some v) : v < 10 ^ l.length := by
 unfold Lib.decNat at h
 split at h
 ·cases h
 ·have := decFrom_lt l 0 v h
  simpa using this
theorem atoi_lt {l : List UInt8} {n : Int} (h : Lib.atoi l = some n) (hl : l.length ≤ 7) : n.natAbs < 10000000 := by
 have key : ∀ (m : List UInt8) (v : Nat), m.length ≤ 7 → Lib.decNat m = some v → v < 10000000 := fun m v hm hv => by
  have h1 := decNat_lt hv
  have h2 : 10 ^ m.length ≤ 10 ^ 7 := Nat.pow_le_pow_right (by omega) hm
  have h3 : (10 : Nat) ^ 7 = 10000000 := by decide
  omega
 cases l with
 | nil => cases h
 | cons b r =>
  rw [atoi_cons] at h
  simp only [List.length_cons] at hl
  split at h
  ·obtain ⟨v, hv, rfl⟩ := Option.map_eq_some_iff.mp h
   have := key r v (by omega) hv
   omega
  ·split at h
   ·obtain ⟨v, hv, rfl⟩ := Option.map_eq_some_iff.mp h
    have := key r v (by omega) hv
    omega
   ·obtain ⟨v, hv, rfl⟩ := Option.map_eq_some_iff.mp h
    have := key (b :: r) v (by simpa using hl) hv
    omega
theorem gText_len {a b : Int} (ha : a.natAbs ≤ 999999) (hb : b.natAbs ≤ 999999) : (gText a b).length ≤ 16 := by
 have h1 := itoa_len ha
 have h2 := itoa_len hb
 unfold gText
 repeat' split
 all_goals (try simp only [List.length_append, List.length_cons, List.length_nil])
 all_goals omega
def zshow : Option (Int × Int) → ByteArray × Int
 | some (a, b) => (by_ (gText a b), 0)
 | none => (⟨#[]⟩, 140)
theorem show_ev {z : Nat × Nat} {v : Option (Int × Int)} (h : Zh z v) : gauss_Show.f z = some (zshow v) := by
 obtain ⟨r, e, t⟩ := parts_ev h
 unfold gauss_Show.f
 rw [e]
 rcases v with _ | ⟨a, b⟩
 ·have t' : r.2.2 = false := t
  show (if r.2.2 = true then _ else _) = _
  rw [if_neg (by rw [t']; simp)]
  rfl
 ·have t' : r = (a, b, true) := t
  subst t'
  have ha := h.1.2.2
  have hb := h.2.2.2
  show (if -999999 ≤ a ∧ a ≤ 999999 ∧ -999999 ≤ b ∧ b ≤ 999999 then _ else _) = _
  rw [if_pos (by omega)]
  rfl
theorem whole_ev (a b : Int) : gauss_whole.f a b = some (flt a, flt b) := rfl
theorem number_any (s : ByteArray) (h : s.size ≤ 18) : ∃ n ok, gauss_number.f s = some (n, ok) ∧ (ok = true → n.natAbs < 10000000) := by
 unfold gauss_number.f
 rw [if_pos h]
 cases e : Lib.atoi s.data.toList with
 | none => exact ⟨_, _, rfl, fun h => by cases h⟩
 | some n =>
  refine ⟨_, _, rfl, fun h7 => atoi_lt e ?_⟩
  have := of_decide_eq_true h7
  simpa using this
theorem number_itoa {n : Int} (h : n.natAbs ≤ 999999) : gauss_number.f (by_ (Lib.itoa n)) = some (n, true) := by
 have hl := itoa_len h
 unfold gauss_number.f
 have e : (by_ (Lib.itoa n)).data.toList = Lib.itoa n := by simp [by_]
 rw [if_pos (by rw [by_size]; omega), e, atoi_itoa]
 show some (n, decide ((by_ (Lib.itoa n)).size ≤ 7)) = _
 rw [decide_eq_true (by rw [by_size]; exact hl)]
theorem flt_of {n m : Int} (hn : n.natAbs < 10000000) (h : Wh (flt n) m) : m = n := by
 have h53 : (10000000 : Nat) < 2 ^ 53 := by decide
 have h1 := (flt_fin (n := n) (by omega)).2
 rw [h.2.1] at h1
 exact (Int.mul_eq_mul_right_iff (Int.ne_of_gt Fl.T_pos)).mp h1
def told (s : ByteArray) (r : (Nat × Nat) × Int) : Prop := r = ((0, 0), 140) ∨ ∃ a b, a.natAbs ≤ 999999 ∧ b.natAbs ≤ 999999 ∧ by_ (gText a b) = s ∧ r = ((flt a, flt b), 0)
theorem toList_eq {a b : ByteArray} (h : a.toList = b.toList) : a = b := ints_inj ((toList_iff a b).mp h)
theorem j0_any (s x y : ByteArray) (hx : x.size ≤ 18) (hy : y.size ≤ 18) : ∃ r, Ev (fun k => gauss_Parse.j0 k s x y) r ∧ told s r := by
 obtain ⟨a, oka, ea, la⟩ := number_any x hx
 obtain ⟨b, okb, eb, lb⟩ := number_any y hy
 obtain ⟨v, hv⟩ := zh_any (flt a, flt b)
 have no : told s ((0, 0), 140) := .inl rfl
 have hs := show_ev hv
 by_cases c1 : oka = true
 ·by_cases c2 : okb = true
  ·by_cases c3 : (zshow v).2 = 0
   ·by_cases c4 : (zshow v).1.toList = s.toList
    ·refine ⟨((flt a, flt b), 0), ?_, ?_⟩
     ·refine Ev.step (fun k => by simp only [gauss_Parse.j0]; rfl) ?_
      exact ev_bind0 ea (ev_bind0 eb (ev_bind0 (whole_ev a b) (ev_bind0 hs (ev_pos c1 (ev_pos c2 (ev_pos c3 (ev_pos c4 (Ev.now _))))))))
     ·rcases v with _ | ⟨a', b'⟩
      ·exact absurd c3 (by simp [zshow])
      ·have e1 := flt_of (la c1) hv.1
       have e2 := flt_of (lb c2) hv.2
       subst e1 e2
       exact .inr ⟨_, _, hv.1.2.2, hv.2.2.2, toList_eq c4, rfl⟩
    ·refine ⟨_, Ev.step (fun k => by simp only [gauss_Parse.j0]; rfl) ?_, no⟩
     exact ev_bind0 ea (ev_bind0 eb (ev_bind0 (whole_ev a b) (ev_bind0 hs (ev_pos c1 (ev_pos c2 (ev_pos c3 (ev_neg c4 (Ev.now _))))))))
   ·refine ⟨_, Ev.step (fun k => by simp only [gauss_Parse.j0]; rfl) ?_, no⟩
    exact ev_bind0 ea (ev_bind0 eb (ev_bind0 (whole_ev a b) (ev_bind0 hs (ev_pos c1 (ev_pos c2 (ev_neg c3 (Ev.now _)))))))
  ·refine ⟨_, Ev.step (fun k => by simp only [gauss_Parse.j0]; rfl) ?_, no⟩
   exact ev_bind0 ea (ev_bind0 eb (ev_bind0 (whole_ev a b) (ev_bind0 hs (ev_pos c1 (ev_neg c2 (Ev.now _))))))
 ·refine ⟨_, Ev.step (fun k => by simp only [gauss_Parse.j0]; rfl) ?_, no⟩
  exact ev_bind0 ea (ev_bind0 eb (ev_bind0 (whole_ev a b) (ev_bind0 hs (ev_neg c1 (Ev.now _)))))
theorem j0_ok {a b : Int} (ha : a.natAbs ≤ 999999) (hb : b.natAbs ≤ 999999) : Ev (fun k => gauss_Parse.j0 k (by_ (gText a b)) (by_ (Lib.itoa a)) (by_ (Lib.itoa b))) ((flt a, flt b), 0) := by
 refine Ev.step (fun k => by simp only [gauss_Parse.j0]; rfl) ?_
 exact ev_bind0 (number_itoa ha) (ev_bind0 (number_itoa hb) (ev_bind0 (whole_ev a b) (ev_bind0 (show_ev (v := some (a, b)) ⟨flt_wh ha, flt_wh hb⟩) (ev_pos rfl (ev_pos rfl (ev_pos rfl (ev_pos rfl (Ev.now _))))))))
theorem suffix_ev (l : List UInt8) (hl : l.length ≤ 16) : strings_CutSuffix.f (by_ l) (by_ [105]) = some (if l.drop (l.length - 1) = [105] then (by_ (l.take (l.length - 1)), true) else (by_ l, false)) := by
 have h1 : (by_ [105]).size = 1 := rfl
 have hs := by_size l
 have hsuf : stringslite_HasSuffix.f (by_ l) (by_ [105]) = some (decide (l.drop (l.length - 1) = [105])) := by
  unfold stringslite_HasSuffix.f
  by_cases c : ((by_ l).size : Int) ≥ ((by_ [105]).size : Int)
  ·rw [if_pos c, h1, hs, w64 (by omega) (by omega), if_pos (by omega), if_pos (by omega), by_extract, by_toList, by_toList]
   have e : ((l.length : Int) - ((1 : Nat) : Int)).toNat = l.length - 1 := by omega
   have e2 : (l.drop (l.length - 1)).take (l.length - (l.length - 1)) = l.drop (l.length - 1) := List.take_of_length_le (by rw [List.length_drop]; omega)
   rw [e, e2]
   congr 1
   by_cases g : l.drop (l.length - 1) = [105]
   ·rw [g]; rfl
   ·rw [decide_eq_false g]; simpa using g
  ·rw [if_neg c]
   have : l = [] := List.length_eq_zero_iff.mp (by omega)
   subst this
   rfl
 unfold strings_CutSuffix.f stringslite_CutSuffix.f
 rw [hsuf]
 by_cases g : l.drop (l.length - 1) = [105]
 ·have hp : 1 ≤ l.length := by
   rcases Nat.eq_zero_or_pos l.length with h | h
   ·rw [List.length_eq_zero_iff.mp h] at g; simp at g
   ·exact h
  rw [decide_eq_true g, if_pos g]
  simp only [Option.bind_some]
  rw [if_pos trivial, h1, hs, w64 (by omega) (by omega), if_pos (by omega), if_pos (by omega), by_extract]
  have e : ((l.length : Int) - ((1 : Nat) : Int)).toNat = l.length - 1 := by omega
  rw [e]
  simp
 ·rw [decide_eq_false g, if_neg g]
  simp
theorem prefix_ev (l : List UInt8) (hl : l.length ≤ 16) : strings_TrimPrefix.f (by_ l) (by_ [43]) = some (if l.take 1 = [43] then by_ (l.drop 1) else by_ l) := by
 have h1 : (by_ [43]).size = 1 := rfl
 have hs := by_size l
 have hpre : stringslite_HasPrefix.f (by_ l) (by_ [43]) = some (decide (l.take 1 = [43])) := by
  unfold stringslite_HasPrefix.f
  by_cases c : ((by_ l).size : Int) ≥ ((by_ [43]).size : Int)
  ·rw [if_pos c, h1, hs, if_pos (by omega), if_pos (by omega), by_extract, by_toList, by_toList]
   have e : (((1 : Nat) : Int)).toNat = 1 := rfl
   rw [e, List.drop_zero]
   congr 1
   by_cases g : l.take 1 = [43]
   ·rw [show 1 - 0 = 1 from rfl, g]; rfl
   ·rw [decide_eq_false g]; simpa using g
  ·rw [if_neg c]
   have : l = [] := List.length_eq_zero_iff.mp (by omega)
   subst this
   rfl
 unfold strings_TrimPrefix.f stringslite_TrimPrefix.f
 rw [hpre]
 by_cases g : l.take 1 = [43]
 ·have hp : 1 ≤ l.length := by
   rcases Nat.eq_zero_or_pos l.length with h | h
   ·rw [List.length_eq_zero_iff.mp h] at g; simp at g
   ·exact h
  rw [decide_eq_true g, if_pos g]
  simp only [Option.bind_some]
  rw [if_pos trivial, h1, hs, if_pos (by omega), if_pos (by omega), by_extract]
  have e : (((1 : Nat) : Int)).toNat = 1 := rfl
  have e2 : (l.drop 1).take (l.length - 1) = l.drop 1 := List.take_of_length_le (by rw [List.length_drop]; omega)
  simp only [e, Option.bind_some, e2]
 ·rw [decide_eq_false g, if_neg g]
  simp
def lst (l : List UInt8) (c : UInt8) : Int := Lib.lastIndexByte (by_ l) (c.toNat : Int)
theorem last_ev (l : List UInt8) (c : UInt8) (hl : l.length ≤ 16) : strings_LastIndex.f (by_ l) (by_ [c]) = some (lst l c) := by
 unfold strings_LastIndex.f
 rw [dif_pos ⟨rfl, by rw [by_size]; omega⟩]
 rfl
theorem lst_range (l : List UInt8) (c : UInt8) : -1 ≤ lst l c ∧ lst l c < l.length := by
 unfold lst
 rcases Lib.lastIndexByte_spec (by_ l) (c.toNat : Int) with ⟨e, _⟩ | ⟨i, hi, e, _⟩
 ·rw [e]; omega
 ·rw [by_size] at hi; rw [e]; omega
theorem lst_none (l : List UInt8) (c : UInt8) (h : ∀ x ∈ l, x ≠ c) : lst l c = -1 := by
 unfold lst
 rcases Lib.lastIndexByte_spec (by_ l) (c.toNat : Int) with ⟨e, _⟩ | ⟨i, hi, e, hc, _⟩
 ·exact e
 ·rw [by_size] at hi
  rw [by_at l i hi] at hc
  exact absurd (UInt8.toNat_inj.mp (by omega)) (h _ (List.getElem_mem hi))
theorem lst_at (p q : List UInt8) (c : UInt8) (h : ∀ x ∈ q, x ≠ c) : lst (p ++ c :: q) c = p.length := by
 unfold lst
 have hlen : (p ++ c :: q).length = p.length + q.length + 1 := by simp; omega
 have hm : ((by_ (p ++ c :: q)).data[p.length]!) = c := by
  rw [by_at _ _ (by omega)]
  have e : (p ++ c :: q)[p.length]? = some c := by rw [List.getElem?_append_right (Nat.le_refl _), Nat.sub_self]; rfl
  exact (List.getElem?_eq_some_iff.mp e).2
 rcases Lib.lastIndexByte_spec (by_ (p ++ c :: q)) (c.toNat : Int) with ⟨_, hn⟩ | ⟨i, hi, e, hc, hn⟩
 ·exact absurd (by rw [hm]) (hn p.length (by rw [by_size]; omega))
 ·rw [by_size] at hi hn
  rw [e]
  rcases Nat.lt_trichotomy i p.length with g | g | g
  ·exact absurd (by rw [hm]) (hn p.length g (by omega))
  ·rw [g]
  ·rw [by_at _ _ hi] at hc
   have hx : (p ++ c :: q)[i] ∈ q := by
    obtain ⟨k, rfl⟩ : ∃ k, i = p.length + (k + 1) := ⟨i - p.length - 1, by omega⟩
    have e2 : (p ++ c :: q)[p.length + (k + 1)]? = q[k]? := by
     rw [List.getElem?_append_right (by omega)]
     have : p.length + (k + 1) - p.length = k + 1 := by omega
     rw [this, List.getElem?_cons_succ]
    rw [List.getElem?_eq_getElem hi] at e2
    exact List.mem_of_getElem? e2.symm
   exact absurd (UInt8.toNat_inj.mp (by omega)) (h _ hx)
theorem parse_any (s : ByteArray) : ∃ r, Ev (fun k => gauss_Parse.f k s) r ∧ told s r := by
 unfold gauss_Parse.f
 by_cases c : (s.size : Int) > 16
 ·exact ⟨_, ev_pos c (Ev.now _), .inl rfl⟩
 obtain ⟨l, rfl⟩ : ∃ l, s = by_ l := ⟨_, (by_self s).symm⟩
 have hl : l.length ≤ 16 := by rw [by_size] at c; omega
 by_cases g : l.drop (l.length - 1) = [105]
 ·have hsuf := suffix_ev l hl
  rw [if_pos g] at hsuf
  generalize hh : l.take (l.length - 1) = h at hsuf
  have hhl : h.length ≤ 16 := by rw [← hh, List.length_take]; omega
  have r1 := lst_range h 43
  have r2 := lst_range h 45
  have hmx : mx (lst h 43) (lst h 45) ≤ h.length ∧ -1 ≤ mx (lst h 43) (lst h 45) := by unfold mx; split <;> omega
  generalize hm : mx (lst h 43) (lst h 45) = m at hmx
  by_cases c3 : m > 0
  ·have hp := prefix_ev ((h.drop m.toNat).take (h.length - m.toNat)) (by rw [List.length_take, List.length_drop]; omega)
   obtain ⟨r, e, t⟩ := j0_any (by_ l) ((by_ h).extract 0 (m : Int).toNat) (if ((h.drop m.toNat).take (h.length - m.toNat)).take 1 = [43] then by_ (((h.drop m.toNat).take (h.length - m.toNat)).drop 1) else by_ ((h.drop m.toNat).take (h.length - m.toNat)))
    (by rw [by_extract, by_size, List.length_take, List.length_drop]; omega) (by split <;> rw [by_size] <;> simp <;> omega)
   refine ⟨r, ev_neg c (ev_bind0 hsuf (ev_pos rfl (ev_bind0 (last_ev h 43 hhl) (ev_bind0 (last_ev h 45 hhl) ?_)))), t⟩
   rw [hm]
   refine ev_pos c3 (ev_pos (by omega) (ev_pos (by rw [by_size]; omega) ?_))
   rw [by_extract, by_size]
   exact ev_bind0 hp e
  ·obtain ⟨r, e, t⟩ := j0_any (by_ l) (⟨#[48]⟩ : ByteArray) (by_ h) (by decide) (by rw [by_size]; omega)
   refine ⟨r, ev_neg c (ev_bind0 hsuf (ev_pos rfl (ev_bind0 (last_ev h 43 hhl) (ev_bind0 (last_ev h 45 hhl) ?_)))), t⟩
   rw [hm]
   exact ev_neg c3 e
 ·have hsuf := suffix_ev l hl
  rw [if_neg g] at hsuf
  obtain ⟨r, e, t⟩ := j0_any (by_ l) (by_ l) (⟨#[48]⟩ : ByteArray) (by rw [by_size]; omega) (by decide)
  exact ⟨r, ev_neg c (ev_bind0 hsuf (ev_neg (by simp) e)), t⟩
theorem itoa_zero : Lib.itoa 0 = [48] := by decide +kernel
theorem suf_i (h : List UInt8) : (h ++ [105]).drop ((h ++ [105]).length - 1) = [105] ∧ (h ++ [105]).take ((h ++ [105]).length - 1) = h := by
 have e : (h ++ [105]).length - 1 = h.length := by rw [List.length_append]; rfl
 rw [e]
 exact ⟨List.drop_left, List.take_left⟩
theorem itoa_tail (n : Int) : ∃ c r, Lib.itoa n = c :: r ∧ (∀ x ∈ r, x ≠ 45) ∧ (n < 0 → c = 45) ∧ (¬ n < 0 → c ≠ 45 ∧ c ≠ 43) := by
 rw [itoa_form]
 have hd : ∀ x ∈ Lib.decDigits n.natAbs, x ≠ 45 ∧ x ≠ 43 := fun x hx => by
  have := dec_digit _ x hx
  exact ⟨fun e => by subst e; exact absurd this.1 (by decide), fun e => by subst e; exact absurd this.1 (by decide)⟩
 by_cases h : n < 0
 ·rw [if_pos h]
  exact ⟨45, _, rfl, fun x hx => (hd x hx).1, fun _ => rfl, fun g => absurd h g⟩
 ·rw [if_neg h, List.nil_append]
  cases e : Lib.decDigits n.natAbs with
  | nil => exact absurd e (dec_ne _)
  | cons c r =>
   rw [e] at hd
   exact ⟨c, r, rfl, fun x hx => (hd x (by simp [hx])).1, fun g => absurd g h, fun _ => hd c (by simp)⟩
theorem lst_sign (n : Int) : lst (Lib.itoa n) 45 ≤ 0 := by
 obtain ⟨c, r, e, h1, h2, h3⟩ := itoa_tail n
 rw [e]
 by_cases h : n < 0
 ·rw [h2 h]
  have := lst_at [] r 45 h1
  simp only [List.nil_append, List.length_nil] at this
  rw [this]; decide
 ·rw [lst_none _ _ (by
   intro x hx
   rcases List.mem_cons.mp hx with rfl | hx
   ·exact (h3 h).1
   ·exact h1 x hx)]
  decide
theorem parse_txt {a b : Int} (ha : a.natAbs ≤ 999999) (hb : b.natAbs ≤ 999999) : Ev (fun k => gauss_Parse.f k (by_ (gText a b))) ((flt a, flt b), 0) := by
 have hl := gText_len ha hb
 have n43 : ∀ n : Int, ∀ c ∈ Lib.itoa n, c ≠ 43 := fun n => itoa_no 43 (by decide) (by decide)
 have n105 : ∀ n : Int, ∀ c ∈ Lib.itoa n, c ≠ 105 := fun n => itoa_no 105 (by decide) (by decide)
 unfold gauss_Parse.f
 refine ev_neg (by rw [by_size]; omega) ?_
 have ok := j0_ok ha hb
 by_cases b0 : b = 0
 ·subst b0
  have e : gText a 0 = Lib.itoa a := by unfold gText; rw [if_pos rfl]
  rw [e] at hl ok ⊢
  have hsuf := suffix_ev (Lib.itoa a) hl
  rw [if_neg (fun h => n105 a 105 (List.mem_of_mem_drop (by rw [h]; simp)) rfl)] at hsuf
  rw [itoa_zero] at ok
  exact ev_bind0 hsuf (ev_neg (by simp) ok)
 by_cases a0 : a = 0
 ·subst a0
  have e : gText 0 b = Lib.itoa b ++ [105] := by unfold gText; rw [if_neg b0, if_pos rfl]
  rw [e] at hl ok ⊢
  have hsuf := suffix_ev (Lib.itoa b ++ [105]) hl
  rw [if_pos (suf_i _).1, (suf_i _).2] at hsuf
  have h16 : (Lib.itoa b).length ≤ 16 := by have := itoa_len hb; omega
  refine ev_bind0 hsuf (ev_pos rfl (ev_bind0 (last_ev _ 43 h16) (ev_bind0 (last_ev _ 45 h16) ?_)))
  rw [lst_none _ 43 (n43 b)]
  have hs := lst_sign b
  rw [itoa_zero] at ok
  exact ev_neg (by unfold mx; split <;> omega) ok
 have apos := itoa_pos a
 have l1 := itoa_len ha
 have l2 := itoa_len hb
 by_cases bp : b > 0
 ·have e : gText a b = (Lib.itoa a ++ 43 :: Lib.itoa b) ++ [105] := by unfold gText; rw [if_neg b0, if_neg a0, if_pos bp]; simp
  rw [e] at hl ok ⊢
  have hsuf := suffix_ev _ hl
  rw [if_pos (suf_i _).1, (suf_i _).2] at hsuf
  have h16 : (Lib.itoa a ++ 43 :: Lib.itoa b).length ≤ 16 := by simp; omega
  refine ev_bind0 hsuf (ev_pos rfl (ev_bind0 (last_ev _ 43 h16) (ev_bind0 (last_ev _ 45 h16) ?_)))
  rw [lst_at _ _ 43 (n43 b)]
  have h45 : lst (Lib.itoa a ++ 43 :: Lib.itoa b) 45 ≤ 0 := by
   obtain ⟨c, r, ec, h1, h2, h3⟩ := itoa_tail a
   have hb45 : ∀ x ∈ Lib.itoa b, x ≠ 45 := by
    obtain ⟨c', r', ec', g1, g2, g3⟩ := itoa_tail b
    rw [ec']
    intro x hx
    rcases List.mem_cons.mp hx with rfl | hx
    ·exact (g3 (by omega)).1
    ·exact g1 x hx
   have hr : ∀ x ∈ r ++ 43 :: Lib.itoa b, x ≠ 45 := by
    intro x hx
    rcases List.mem_append.mp hx with hx | hx
    ·exact h1 x hx
    ·rcases List.mem_cons.mp hx with rfl | hx
     ·decide
     ·exact hb45 x hx
   rw [ec, List.cons_append]
   by_cases h : a < 0
   ·rw [h2 h]
    have := lst_at [] _ 45 hr
    simp only [List.nil_append, List.length_nil] at this
    rw [this]; decide
   ·rw [lst_none _ _ (by
     intro x hx
     rcases List.mem_cons.mp hx with rfl | hx
     ·exact (h3 h).1
     ·exact hr x hx)]
    decide
  have em : mx ((Lib.itoa a).length : Int) (lst (Lib.itoa a ++ 43 :: Lib.itoa b) 45) = (Lib.itoa a).length := by unfold mx; rw [if_neg (by omega)]
  rw [em]
  refine ev_pos (by omega) (ev_pos (by omega) (ev_pos (by rw [by_size]; simp only [List.length_append, List.length_cons]; omega) ?_))
  have et : ((Lib.itoa a).length : Int).toNat = (Lib.itoa a).length := by omega
  rw [et, by_extract, by_extract, by_size]
  have e1 : ((Lib.itoa a ++ 43 :: Lib.itoa b).drop (Lib.itoa a).length).take ((Lib.itoa a ++ 43 :: Lib.itoa b).length - (Lib.itoa a).length) = 43 :: Lib.itoa b := by simp
  have e2 : ((Lib.itoa a ++ 43 :: Lib.itoa b).drop 0).take ((Lib.itoa a).length - 0) = Lib.itoa a := by simp
  rw [e1, e2]
  have hp := prefix_ev (43 :: Lib.itoa b) (by simp; omega)
  rw [if_pos (by simp)] at hp
  exact ev_bind0 hp (by simpa using ok)
 ·have e : gText a b = (Lib.itoa a ++ Lib.itoa b) ++ [105] := by unfold gText; rw [if_neg b0, if_neg a0, if_neg bp]; simp
  rw [e] at hl ok ⊢
  obtain ⟨c, r, ec, g1, g2, g3⟩ := itoa_tail b
  have hc := g2 (by omega)
  subst hc
  have hsuf := suffix_ev _ hl
  rw [if_pos (suf_i _).1, (suf_i _).2] at hsuf
  have h16 : (Lib.itoa a ++ Lib.itoa b).length ≤ 16 := by simp; omega
  refine ev_bind0 hsuf (ev_pos rfl (ev_bind0 (last_ev _ 43 h16) (ev_bind0 (last_ev _ 45 h16) ?_)))
  have e43 : lst (Lib.itoa a ++ Lib.itoa b) 43 = -1 := lst_none _ _ (fun x hx => by
   rcases List.mem_append.mp hx with hx | hx
   ·exact n43 a x hx
   ·exact n43 b x hx)
  have e45 : lst (Lib.itoa a ++ Lib.itoa b) 45 = (Lib.itoa a).length := by rw [ec]; exact lst_at _ _ 45 g1
  have em : mx (-1) ((Lib.itoa a).length : Int) = (Lib.itoa a).length := by unfold mx; rw [if_pos (by omega)]
  rw [e43, e45, em]
  refine ev_pos (by omega) (ev_pos (by omega) (ev_pos (by rw [by_size]; simp only [List.length_append, List.length_cons]; omega) ?_))
  have et : ((Lib.itoa a).length : Int).toNat = (Lib.itoa a).length := by omega
  rw [et, by_extract, by_extract, by_size]
  have e1 : ((Lib.itoa a ++ Lib.itoa b).drop (Lib.itoa a).length).take ((Lib.itoa a ++ Lib.itoa b).length - (Lib.itoa a).length) = Lib.itoa b := by simp
  have e2 : ((Lib.itoa a ++ Lib.itoa b).drop 0).take ((Lib.itoa a).length - 0) = Lib.itoa a := by simp
  rw [e1, e2]
  have hp := prefix_ev (Lib.itoa b) (by omega)
  rw [if_neg (by rw [ec]; simp)] at hp
  exact ev_bind0 hp ok
theorem ev_one {α : Type} {g : Nat → Option α} {a b : α} (h1 : Ev g a) (h2 : Ev g b) : a = b := by
 obtain ⟨K1, h1⟩ := h1
 obtain ⟨K2, h2⟩ := h2
 have a1 := h1 (K1 + K2) (by omega)
 have a2 := h2 (K1 + K2) (by omega)
 rw [a1] at a2
 exact Option.some.inj a2
end Go.Proofs.YtdgnekknmpfepaaGreatDoor.Pure.G
