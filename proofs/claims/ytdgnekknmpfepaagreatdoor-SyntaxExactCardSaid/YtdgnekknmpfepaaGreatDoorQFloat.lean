import Derived.Laws.FloatArith

/- Whole numbers among the floats: what they are read as, ordered, multiplied, added; no condition. -/
namespace Go.Proofs.YtdgnekknmpfepaaGreatDoor.Fl
open Ieee
set_option linter.unusedSimpArgs false
theorem place_d : double.leastPlace = -1074 := by decide
theorem binade_d : double.binade = 2 ^ 52 := rfl
theorem inf_d : double.infRung = 2047 * 2 ^ 52 := by decide
theorem sign_d : double.signWeight = 2 ^ 63 := rfl
theorem frac_d : double.fractionBits = 52 := rfl
theorem cut_exact (way : Toward) (hw : way = .even ∨ way = .zero) (neg : Bool) (n d : Nat) : way.cut neg (n * 2 ^ d) d = n := by
 by_cases hn : n = 0
 ·subst hn
  rcases hw with rfl | rfl
  ·unfold Toward.cut
   simp [Nat.shiftLeft_eq]
  ·unfold Toward.cut
   simp
 ·have hpos : 0 < 2 ^ d := Nat.two_pow_pos d
  have hne : n * 2 ^ d ≠ 0 := by
   intro h
   rcases Nat.mul_eq_zero.mp h with h | h
   ·exact hn h
   ·omega
  have hle : d ≤ (n * 2 ^ d).log2 := (Nat.le_log2 hne).mpr (Nat.le_mul_of_pos_left _ (Nat.pos_of_ne_zero hn))
  have hmin : min d ((n * 2 ^ d).log2 + 2) = d := by omega
  have hdiv : n * 2 ^ d / 2 ^ d = n := Nat.mul_div_cancel _ hpos
  have hmod : n * 2 ^ d % 2 ^ d = 0 := Nat.mul_mod_left _ _
  rcases hw with rfl | rfl
  ·unfold Toward.cut
   simp only [hmin, Nat.shiftLeft_eq, Nat.one_mul, hdiv, hmod]
   have : ¬ (2 ^ d < 2 * 0) := by omega
   have h2 : ((2 ^ d == 2 * 0) = false) := by simp
   simp [h2]
  ·unfold Toward.cut
   simp [hmin, Nat.shiftLeft_eq, Nat.one_mul, hdiv]
theorem log2_mul (n p : Nat) (hn : n ≠ 0) : (n * 2 ^ p).log2 = n.log2 + p := by
 have hpos : 0 < 2 ^ p := Nat.two_pow_pos p
 have hne : n * 2 ^ p ≠ 0 := by
  intro h
  rcases Nat.mul_eq_zero.mp h with h | h
  ·exact hn h
  ·omega
 apply Nat.le_antisymm
 ·have h1 : n < 2 ^ (n.log2 + 1) := Nat.lt_log2_self
  have h2 : n * 2 ^ p < 2 ^ (n.log2 + p + 1) := by
   have := Nat.mul_lt_mul_of_pos_right h1 hpos
   rw [← Nat.pow_add] at this
   rw [show n.log2 + p + 1 = n.log2 + 1 + p from by omega]
   exact this
  have := (Nat.log2_lt hne).mpr h2
  omega
 ·refine (Nat.le_log2 hne).mpr ?_
  rw [Nat.pow_add]
  exact Nat.mul_le_mul_right _ (Nat.log2_self_le hn)
theorem nearest_exact (neg : Bool) (m N K : Nat) (i : Int) (hK : 0 ≤ i + K) (h : m * 2 ^ (i + K).toNat = N * 2 ^ K) (hN : N ≠ 0) (hlt : N < 2 ^ 53) :
  double.nearest neg m i = double.word neg ((1022 + N.log2) * 2 ^ 52 + N * 2 ^ (52 - N.log2)) := by
 have hL : N.log2 ≤ 52 := by
  have := (Nat.log2_lt hN).mpr hlt
  omega
 have hm : m ≠ 0 := by
  intro e
  rw [e, Nat.zero_mul] at h
  rcases Nat.mul_eq_zero.mp h.symm with h | h
  ·exact hN h
  ·have := Nat.two_pow_pos K; omega
 have hk : N * 2 ^ (52 - N.log2) < 2 ^ 53 := by
  have h1 : N < 2 ^ (N.log2 + 1) := Nat.lt_log2_self
  have := Nat.mul_lt_mul_of_pos_right h1 (Nat.two_pow_pos (52 - N.log2))
  rw [← Nat.pow_add, show N.log2 + 1 + (52 - N.log2) = 53 from by omega] at this
  exact this
 have fin : ∀ last kept, last = (N.log2 : Int) - 52 → kept = N * 2 ^ (52 - N.log2) → double.word neg (min ((last - double.leastPlace).toNat * double.binade + kept) double.infRung) = double.word neg ((1022 + N.log2) * 2 ^ 52 + N * 2 ^ (52 - N.log2)) := by
  intro last kept e1 e2
  rw [e1, e2, place_d, binade_d, inf_d]
  have e3 : ((N.log2 : Int) - 52 - -1074).toNat = 1022 + N.log2 := by omega
  rw [e3, Nat.min_eq_left]
  generalize 2 ^ (52 - N.log2) = z at hk
  omega
 unfold Format.nearest
 rw [if_neg hm]
 by_cases hi : i ≤ 0
 ·obtain ⟨p, rfl⟩ : ∃ p : Nat, i = -(p : Int) := ⟨i.natAbs, by omega⟩
  have hmp : m = N * 2 ^ p := by
   have e : K = (-(p : Int) + K).toNat + p := by omega
   rw [e, Nat.pow_add, ← e] at h
   have hpos : 0 < 2 ^ (-(p : Int) + K).toNat := Nat.two_pow_pos _
   have : m * 2 ^ (-(p : Int) + K).toNat = (N * 2 ^ p) * 2 ^ (-(p : Int) + K).toNat := by
    rw [h, Nat.mul_comm (2 ^ _) (2 ^ p), Nat.mul_assoc]
   exact Nat.eq_of_mul_eq_mul_right hpos this
  have hlog : m.log2 = N.log2 + p := by rw [hmp]; exact log2_mul N p hN
  have elast : max (-(p : Int) + m.log2 - double.fractionBits) double.leastPlace = (N.log2 : Int) - 52 := by
   rw [hlog, frac_d, place_d]; omega
  dsimp only
  rw [elast]
  refine fin _ _ rfl ?_
  by_cases hp : p ≤ 52 - N.log2
  ·have e1 : (-(p : Int) - ((N.log2 : Int) - 52)).toNat = 52 - N.log2 - p := by omega
   have e2 : ((N.log2 : Int) - 52 - -(p : Int)).toNat = 0 := by omega
   rw [e1, e2, Nat.shiftLeft_eq, hmp, Nat.mul_assoc, ← Nat.pow_add, show p + (52 - N.log2 - p) = 52 - N.log2 from by omega]
   have := cut_exact .even (.inl rfl) neg (N * 2 ^ (52 - N.log2)) 0
   rw [Nat.pow_zero, Nat.mul_one] at this
   exact this
  ·have e1 : (-(p : Int) - ((N.log2 : Int) - 52)).toNat = 0 := by omega
   have e2 : ((N.log2 : Int) - 52 - -(p : Int)).toNat = p - (52 - N.log2) := by omega
   rw [e1, e2, Nat.shiftLeft_eq, Nat.pow_zero, Nat.mul_one, hmp]
   have := cut_exact .even (.inl rfl) neg (N * 2 ^ (52 - N.log2)) (p - (52 - N.log2))
   rw [Nat.mul_assoc, ← Nat.pow_add, show 52 - N.log2 + (p - (52 - N.log2)) = p from by omega] at this
   exact this
 ·obtain ⟨q, rfl⟩ : ∃ q : Nat, i = (q : Int) := ⟨i.natAbs, by omega⟩
  have hmq : N = m * 2 ^ q := by
   have e : ((q : Int) + K).toNat = q + K := by omega
   rw [e, Nat.pow_add, ← Nat.mul_assoc] at h
   exact (Nat.eq_of_mul_eq_mul_right (Nat.two_pow_pos K) h).symm
  have hlog : N.log2 = m.log2 + q := by rw [hmq]; exact log2_mul m q hm
  have elast : max ((q : Int) + m.log2 - double.fractionBits) double.leastPlace = (N.log2 : Int) - 52 := by
   rw [hlog, frac_d, place_d]; omega
  dsimp only
  rw [elast]
  refine fin _ _ rfl ?_
  have e1 : ((q : Int) - ((N.log2 : Int) - 52)).toNat = q + (52 - N.log2) := by omega
  have e2 : ((N.log2 : Int) - 52 - (q : Int)).toNat = 0 := by omega
  rw [e1, e2, Nat.shiftLeft_eq, Nat.pow_add, ← Nat.mul_assoc, ← hmq]
  have := cut_exact .even (.inl rfl) neg (N * 2 ^ (52 - N.log2)) 0
  rw [Nat.pow_zero, Nat.mul_one] at this
  exact this
theorem read_word (neg : Bool) (r : Nat) (h : r < 2 ^ 63) : double.word neg r / 2 ^ 63 % 2 = neg.toNat ∧ double.word neg r % 2 ^ 63 = r := by
 unfold Format.word
 rw [sign_d]
 cases neg
 ·simp only [Bool.false_eq_true, if_false, Bool.toNat_false]; omega
 ·simp only [if_true, Bool.toNat_true]; omega
def val : Datum → Int
 | .number s m i => signed s m (i + 1074).toNat
 | _ => 0
def T : Int := ((2 ^ 1074 : Nat) : Int)
theorem T_pos : 0 < T := by
 have h : 0 < 2 ^ 1074 := Nat.two_pow_pos 1074
 unfold T
 exact Int.ofNat_lt.mpr h
def fin (b : Nat) : Bool := match double.read b with | .number .. => true | _ => false
def fv (b : Nat) : Int := val (double.read b)
theorem fin_iff {b : Nat} (h : fin b = true) : ∃ s m i, double.read b = .number s m i := by
 unfold fin at h
 split at h
 ·rename_i s m i e; exact ⟨s, m, i, e⟩
 ·cases h
theorem fin_of {b : Nat} {s m i} (h : double.read b = .number s m i) : fin b = true := by unfold fin; rw [h]
theorem read_place {b : Nat} {s m i} (h : double.read b = .number s m i) : -1074 ≤ i := by
 unfold Format.read at h
 dsimp only at h
 rw [place_d] at h
 split at h
 ·injection h with _ _ h; omega
 ·split at h
  ·injection h with _ _ h; omega
  ·split at h <;> cases h
theorem signed_eq (s : Bool) (m k : Nat) : signed s m k = if s then -((m * 2 ^ k : Nat) : Int) else ((m * 2 ^ k : Nat) : Int) := by
 unfold signed; rw [Nat.shiftLeft_eq]
theorem signed_scale (s : Bool) (m k l : Nat) : signed s m (k + l) = signed s m k * ((2 ^ l : Nat) : Int) := by
 rw [signed_eq, signed_eq, Nat.pow_add, ← Nat.mul_assoc]
 cases s
 ·simp only [Bool.false_eq_true, if_false]; exact Int.natCast_mul _ _
 ·simp only [if_true]; rw [Int.natCast_mul (m * 2 ^ k), Int.neg_mul]
theorem compare_scale (a b : Int) (c : Nat) (hc : 0 < c) : compare (a * (c : Int)) (b * (c : Int)) = compare a b := by
 have h0 : (0 : Int) < (c : Int) := Int.ofNat_lt.mpr hc
 show compareOfLessAndEq _ _ = compareOfLessAndEq _ _
 unfold compareOfLessAndEq
 have h1 : (a * (c : Int) < b * (c : Int)) ↔ a < b := Int.mul_lt_mul_right h0
 have h2 : (a * (c : Int) = b * (c : Int)) ↔ a = b := Int.mul_eq_mul_right_iff (by omega)
 simp only [h1, h2]
theorem order_fin {a b : Nat} (ha : fin a = true) (hb : fin b = true) : double.order a b = some (compare (fv a) (fv b)) := by
 obtain ⟨s, m, i, ea⟩ := fin_iff ha
 obtain ⟨t, n, j, eb⟩ := fin_iff hb
 have hi := read_place ea
 have hj := read_place eb
 unfold Format.order fv val
 rw [ea, eb]
 unfold Datum.order
 dsimp only
 have e1 : (i + 1074).toNat = (i - min i j).toNat + (min i j + 1074).toNat := by omega
 have e2 : (j + 1074).toNat = (j - min i j).toNat + (min i j + 1074).toNat := by omega
 rw [e1, e2, signed_scale, signed_scale, compare_scale _ _ _ (Nat.two_pow_pos _)]
theorem compare_eq (a b : Int) : (compare a b = .eq ↔ a = b) ∧ (compare a b = .lt ↔ a < b) ∧ (compare a b = .gt ↔ b < a) := by
 show (compareOfLessAndEq a b = .eq ↔ _) ∧ (compareOfLessAndEq a b = .lt ↔ _) ∧ (compareOfLessAndEq a b = .gt ↔ _)
 unfold compareOfLessAndEq
 split
 ·simp; omega
 ·split
  ·simp; omega
  ·simp; omega
theorem write_val (s : Bool) (m N K : Nat) (i : Int) (hK : 0 ≤ i + K) (h : m * 2 ^ (i + K).toNat = N * 2 ^ K) (hlt : N < 2 ^ 53) :
  fin (double.write (.number s m i)) = true ∧ fv (double.write (.number s m i)) = if s then -((N : Int) * T) else (N : Int) * T := by
 have hK2 : 0 < 2 ^ K := Nat.two_pow_pos K
 by_cases hN : N = 0
 ·subst hN
  have hm : m = 0 := by
   rw [Nat.zero_mul] at h
   rcases Nat.mul_eq_zero.mp h with h | h
   ·exact h
   ·have := Nat.two_pow_pos (i + K).toNat; omega
  subst hm
  have e : double.write (.number s 0 i) = double.word s 0 := by unfold Format.write Format.nearest; simp
  have hr : double.read (double.word s 0) = .number s 0 (-1074) := by cases s <;> decide
  rw [e]
  refine ⟨fin_of hr, ?_⟩
  unfold fv
  rw [hr]
  unfold val
  dsimp only
  rw [signed_eq]
  cases s <;> simp
 ·have hL : N.log2 ≤ 52 := by
   have := (Nat.log2_lt hN).mpr hlt
   omega
  have e : double.write (.number s m i) = double.word s ((1022 + N.log2) * 2 ^ 52 + N * 2 ^ (52 - N.log2)) := nearest_exact s m N K i hK h hN hlt
  have hk1 : N * 2 ^ (52 - N.log2) < 2 ^ 53 := by
   have h1 : N < 2 ^ (N.log2 + 1) := Nat.lt_log2_self
   have := Nat.mul_lt_mul_of_pos_right h1 (Nat.two_pow_pos (52 - N.log2))
   rw [← Nat.pow_add, show N.log2 + 1 + (52 - N.log2) = 53 from by omega] at this
   exact this
  have hk0 : 2 ^ 52 ≤ N * 2 ^ (52 - N.log2) := by
   have h1 : 2 ^ N.log2 ≤ N := Nat.log2_self_le hN
   have := Nat.mul_le_mul_right (2 ^ (52 - N.log2)) h1
   rw [← Nat.pow_add, show N.log2 + (52 - N.log2) = 52 from by omega] at this
   exact this
  have hval : N * 2 ^ (52 - N.log2) * 2 ^ (N.log2 + 1022) = N * 2 ^ 1074 := by
   rw [Nat.mul_assoc, ← Nat.pow_add, show 52 - N.log2 + (N.log2 + 1022) = 1074 from by omega]
  generalize hkk : N * 2 ^ (52 - N.log2) = k at *
  have hr : double.read (double.word s ((1022 + N.log2) * 2 ^ 52 + k)) = .number s k ((N.log2 : Int) - 52) := by
   have hw := read_word s ((1022 + N.log2) * 2 ^ 52 + k) (by omega)
   unfold Format.read
   dsimp only
   rw [sign_d, binade_d, inf_d, place_d, hw.1, hw.2]
   rw [if_neg (by omega), if_pos (by omega)]
   have e1 : ((1022 + N.log2) * 2 ^ 52 + k) % 2 ^ 52 = k - 2 ^ 52 := by omega
   have e2 : ((1022 + N.log2) * 2 ^ 52 + k) / 2 ^ 52 = 1023 + N.log2 := by omega
   rw [e1, e2]
   have e3 : (s.toNat == 1) = s := by cases s <;> rfl
   have e4 : 2 ^ 52 + (k - 2 ^ 52) = k := by omega
   have e5 : (-1074 : Int) + ((1023 + N.log2 - 1 : Nat) : Int) = (N.log2 : Int) - 52 := by omega
   rw [e3, e4, e5]
  rw [e]
  refine ⟨fin_of hr, ?_⟩
  unfold fv
  rw [hr]
  unfold val
  dsimp only
  rw [signed_eq, show ((N.log2 : Int) - 52 + 1074).toNat = N.log2 + 1022 from by omega, hval]
  unfold T
  rw [Int.natCast_mul]
theorem int_val (n : Int) (h : n.natAbs < 2 ^ 53) : fin (Go.floatOfInt .f64 n) = true ∧ fv (Go.floatOfInt .f64 n) = n * T := by
 have := write_val (n < 0) n.natAbs n.natAbs 0 0 (by omega) (by simp) h
 refine ⟨this.1, this.2.trans ?_⟩
 by_cases hn : n < 0
 ·rw [if_pos (by simpa using hn)]
  have e : (n.natAbs : Int) = -n := by omega
  rw [e, Int.neg_mul, Int.neg_neg]
 ·rw [if_neg (by simpa using hn)]
  have e : (n.natAbs : Int) = n := by omega
  rw [e]
theorem mag_of {s : Bool} {m k : Nat} {x : Int} (h : signed s m k = x * T) : m * 2 ^ k = x.natAbs * 2 ^ 1074 ∧ x = if s then -(x.natAbs : Int) else (x.natAbs : Int) := by
 rw [signed_eq] at h
 unfold T at h
 have hP : 0 < 2 ^ 1074 := Nat.two_pow_pos 1074
 generalize 2 ^ 1074 = Q at h hP ⊢
 generalize m * 2 ^ k = M at h ⊢
 have hQ : (0 : Int) < (Q : Int) := Int.ofNat_lt.mpr hP
 have hM : (0 : Int) ≤ (M : Int) := Int.natCast_nonneg _
 cases s
 ·simp only [Bool.false_eq_true, if_false] at h ⊢
  have hx : 0 ≤ x := by
   rcases Int.lt_or_le x 0 with hx | hx
   ·have := Int.mul_neg_of_neg_of_pos hx hQ
    omega
   ·exact hx
  have e : (x.natAbs : Int) = x := by omega
  refine ⟨?_, e.symm⟩
  rw [← e, ← Int.natCast_mul] at h
  exact Int.ofNat_inj.mp h
 ·simp only [if_true] at h ⊢
  have hx : x ≤ 0 := by
   rcases Int.lt_or_le 0 x with hx | hx
   ·have := Int.mul_pos hx hQ
    omega
   ·exact hx
  have e : (x.natAbs : Int) = -x := by omega
  refine ⟨?_, by omega⟩
  have h2 : (M : Int) = -x * (Q : Int) := by rw [Int.neg_mul]; omega
  rw [← e, ← Int.natCast_mul] at h2
  exact Int.ofNat_inj.mp h2
theorem mul_val {a b : Nat} {x y : Int} (ha : fin a = true) (hb : fin b = true) (hx : fv a = x * T) (hy : fv b = y * T) (h : (x * y).natAbs < 2 ^ 53) :
  ∃ r, double.mul a b = some r ∧ fin r = true ∧ fv r = x * y * T := by
 obtain ⟨s, m, i, ea⟩ := fin_iff ha
 obtain ⟨t, n, j, eb⟩ := fin_iff hb
 have hi := read_place ea
 have hj := read_place eb
 unfold fv at hx hy
 rw [ea] at hx
 rw [eb] at hy
 unfold val at hx hy
 dsimp only at hx hy
 obtain ⟨gx, sx⟩ := mag_of hx
 obtain ⟨gy, sy⟩ := mag_of hy
 refine ⟨double.write (.number (s ^^ t) (m * n) (i + j)), ?_, ?_⟩
 ·unfold Format.mul
  rw [ea, eb]
  rfl
 ·obtain ⟨A, e2⟩ : ∃ A : Nat, A = 1074 := ⟨_, rfl⟩
  have hK : m * n * 2 ^ (i + j + (A + A : Nat)).toNat = (x.natAbs * y.natAbs) * 2 ^ (A + A) := by
   have e : (i + j + (A + A : Nat)).toNat = (i + 1074).toNat + (j + 1074).toNat := by omega
   rw [← e2] at gx gy
   rw [e, Nat.pow_add, Nat.pow_add]
   have : m * n * (2 ^ (i + 1074).toNat * 2 ^ (j + 1074).toNat) = (m * 2 ^ (i + 1074).toNat) * (n * 2 ^ (j + 1074).toNat) := Nat.mul_mul_mul_comm _ _ _ _
   rw [this, gx, gy]
   exact Nat.mul_mul_mul_comm _ _ _ _
  have w := write_val (s ^^ t) (m * n) (x.natAbs * y.natAbs) (A + A) (i + j) (by omega) hK (by rw [← Int.natAbs_mul]; exact h)
  refine ⟨w.1, w.2.trans ?_⟩
  rw [Int.natCast_mul]
  generalize (x.natAbs : Int) = X at sx ⊢
  generalize (y.natAbs : Int) = Y at sy ⊢
  cases s
  ·have sx' : x = X := by simpa using sx
   cases t
   ·have sy' : y = Y := by simpa using sy
    rw [sx', sy']; simp [Int.neg_mul, Int.mul_neg]
   ·have sy' : y = -Y := by simpa using sy
    rw [sx', sy']; simp [Int.neg_mul, Int.mul_neg]
  ·have sx' : x = -X := by simpa using sx
   cases t
   ·have sy' : y = Y := by simpa using sy
    rw [sx', sy']; simp [Int.neg_mul, Int.mul_neg]
   ·have sy' : y = -Y := by simpa using sy
    rw [sx', sy']; simp [Int.neg_mul, Int.mul_neg]
theorem sum_val {d e : Datum} {s t : Bool} {m n : Nat} {i j : Int} {x y : Int} (ed : d = .number s m i) (ee : e = .number t n j) (hi : -1074 ≤ i) (hj : -1074 ≤ j) (hx : val d = x * T) (hy : val e = y * T) (h : (x + y).natAbs < 2 ^ 53) :
  ∃ r, (d.sum e).map double.write = some r ∧ fin r = true ∧ fv r = (x + y) * T := by
 subst ed ee
 unfold val at hx hy
 dsimp only at hx hy
 have e1 : (i + 1074).toNat = (i - min i j).toNat + (min i j + 1074).toNat := by omega
 have e2 : (j + 1074).toNat = (j - min i j).toNat + (min i j + 1074).toNat := by omega
 rw [e1, signed_scale] at hx
 rw [e2, signed_scale] at hy
 generalize hA : signed s m (i - min i j).toNat = A at hx
 generalize hB : signed t n (j - min i j).toNat = B at hy
 have hs : (A + B) * ((2 ^ (min i j + 1074).toNat : Nat) : Int) = (x + y) * T := by rw [Int.add_mul, hx, hy, Int.add_mul]
 have hc : ((2 ^ (min i j + 1074).toNat : Nat) : Int) > 0 := Int.ofNat_lt.mpr (Nat.two_pow_pos _)
 have hmag : (A + B).natAbs * 2 ^ (min i j + (1074 : Nat)).toNat = (x + y).natAbs * 2 ^ 1074 := by
  have := congrArg Int.natAbs hs
  rw [Int.natAbs_mul, Int.natAbs_mul] at this
  unfold T at this
  rw [Int.natAbs_natCast, Int.natAbs_natCast] at this
  exact this
 refine ⟨double.write (.number (if A + B = 0 then s && t else A + B < 0) (A + B).natAbs (min i j)), ?_, ?_⟩
 ·unfold Datum.sum
  dsimp only
  rw [hA, hB]
  rfl
 ·have w := write_val (if A + B = 0 then s && t else A + B < 0) (A + B).natAbs (x + y).natAbs 1074 (min i j) (by omega) hmag h
  refine ⟨w.1, w.2.trans ?_⟩
  have hT := T_pos
  generalize ((2 ^ (min i j + 1074).toNat : Nat) : Int) = C at hs hc
  generalize x + y = z at hs ⊢
  generalize A + B = D at hs ⊢
  by_cases h0 : D = 0
  ·subst h0
   have hz : z = 0 := by
    rw [Int.zero_mul] at hs
    rcases Int.mul_eq_zero.mp hs.symm with h | h
    ·exact h
    ·omega
   subst hz
   simp
  ·rw [if_neg h0]
   by_cases hd : D < 0
   ·have : z < 0 := by
     rcases Int.lt_or_le z 0 with h | h
     ·exact h
     ·have h1 := Int.mul_neg_of_neg_of_pos hd hc
      have h2 := Int.mul_nonneg h (Int.le_of_lt hT)
      omega
    rw [if_pos (by simpa using hd)]
    have e : (z.natAbs : Int) = -z := by omega
    rw [e, Int.neg_mul, Int.neg_neg]
   ·have : 0 ≤ z := by
     rcases Int.lt_or_le z 0 with h | h
     ·have h1 := Int.mul_neg_of_neg_of_pos h hT
      have h2 := Int.mul_nonneg (show 0 ≤ D by omega) (Int.le_of_lt hc)
      omega
     ·exact h
    rw [if_neg (by simpa using hd)]
    have e : (z.natAbs : Int) = z := by omega
    rw [e]
theorem add_val {a b : Nat} {x y : Int} (ha : fin a = true) (hb : fin b = true) (hx : fv a = x * T) (hy : fv b = y * T) (h : (x + y).natAbs < 2 ^ 53) :
  ∃ r, double.add a b = some r ∧ fin r = true ∧ fv r = (x + y) * T := by
 obtain ⟨s, m, i, ea⟩ := fin_iff ha
 obtain ⟨t, n, j, eb⟩ := fin_iff hb
 exact sum_val ea eb (read_place ea) (read_place eb) hx hy h
theorem val_opposite (s : Bool) (m : Nat) (i : Int) : val (Datum.number s m i).opposite = -val (.number s m i) := by
 unfold Datum.opposite val
 dsimp only
 rw [signed_eq, signed_eq]
 cases s <;> simp
theorem sub_val {a b : Nat} {x y : Int} (ha : fin a = true) (hb : fin b = true) (hx : fv a = x * T) (hy : fv b = y * T) (h : (x - y).natAbs < 2 ^ 53) :
  ∃ r, double.sub a b = some r ∧ fin r = true ∧ fv r = (x - y) * T := by
 obtain ⟨s, m, i, ea⟩ := fin_iff ha
 obtain ⟨t, n, j, eb⟩ := fin_iff hb
 have := sum_val (d := double.read a) (e := (double.read b).opposite) (x := x) (y := -y) ea (by rw [eb]; rfl) (read_place ea) (read_place eb) hx (by
  have hy' : val (double.read b) = y * T := hy
  rw [eb] at hy' ⊢
  rw [val_opposite, hy', Int.neg_mul]) h
 exact this
theorem int_of {b : Nat} {n : Int} (hb : fin b = true) (h : fv b = n * T) : (double.read b).toInt .zero = some n := by
 obtain ⟨s, m, i, eb⟩ := fin_iff hb
 have hi := read_place eb
 unfold fv at h
 rw [eb] at h
 unfold val at h
 dsimp only at h
 obtain ⟨g, sg⟩ := mag_of h
 rw [eb]
 unfold Datum.toInt Datum.integral
 dsimp only
 rw [signed_eq, Nat.pow_zero, Nat.mul_one]
 have e : Toward.zero.cut s (m <<< i.toNat) (-i).toNat = n.natAbs := by
  rw [Nat.shiftLeft_eq]
  by_cases h0 : i ≤ 0
  ·obtain ⟨p, rfl⟩ : ∃ p : Nat, i = -(p : Int) := ⟨i.natAbs, by omega⟩
   have e1 : (-(p : Int)).toNat = 0 := by omega
   have e2 : (- -(p : Int)).toNat = p := by omega
   have e3 : m = n.natAbs * 2 ^ p := by
    have e : 1074 = (-(p : Int) + 1074).toNat + p := by omega
    have g' : m * 2 ^ (-(p : Int) + 1074).toNat = n.natAbs * 2 ^ ((-(p : Int) + 1074).toNat + p) := by rw [← e]; exact g
    rw [Nat.pow_add, Nat.mul_comm (2 ^ _) (2 ^ p), ← Nat.mul_assoc] at g'
    exact Nat.eq_of_mul_eq_mul_right (Nat.two_pow_pos _) g'
   rw [e1, e2, Nat.pow_zero, Nat.mul_one, e3]
   exact cut_exact .zero (.inr rfl) s n.natAbs p
  ·have e2 : (-i).toNat = 0 := by omega
   have e3 : m * 2 ^ i.toNat = n.natAbs := by
    have e : (i + 1074).toNat = i.toNat + 1074 := by omega
    rw [e, Nat.pow_add, ← Nat.mul_assoc] at g
    exact Nat.eq_of_mul_eq_mul_right (Nat.two_pow_pos 1074) g
   rw [e2, e3]
   have := cut_exact .zero (.inr rfl) s n.natAbs 0
   rw [Nat.pow_zero, Nat.mul_one] at this
   exact this
 rw [e]
 exact congrArg some sg.symm
theorem cut_le (s : Bool) (n d B : Nat) (h : n ≤ B * 2 ^ d) : Toward.zero.cut s n d ≤ B := by
 unfold Toward.cut
 simp only [Nat.shiftLeft_eq, Nat.one_mul, Bool.toNat_false, Nat.add_zero]
 rcases Nat.lt_or_ge (n.log2 + 2) d |>.symm with hd | hd
 ·rw [Nat.min_eq_left hd]
  exact Nat.div_le_of_le_mul (by rw [Nat.mul_comm]; exact h)
 ·rw [Nat.min_eq_right (Nat.le_of_lt hd)]
  have : n < 2 ^ (n.log2 + 2) := Nat.lt_of_lt_of_le Nat.lt_log2_self (Nat.pow_le_pow_right (by omega) (by omega))
  rw [Nat.div_eq_of_lt this]
  exact Nat.zero_le _
theorem int_le {b : Nat} {B : Nat} (hb : fin b = true) (h1 : fv b ≤ B * T) (h2 : -(B * T) ≤ fv b) : ∃ n : Int, (double.read b).toInt .zero = some n ∧ n.natAbs ≤ B := by
 obtain ⟨s, m, i, eb⟩ := fin_iff hb
 have hi := read_place eb
 unfold fv at h1 h2
 rw [eb] at h1 h2
 unfold val at h1 h2
 dsimp only at h1 h2
 have hm : m * 2 ^ (i + 1074).toNat ≤ B * 2 ^ 1074 := by
  rw [signed_eq] at h1 h2
  unfold T at h1 h2
  rw [← Int.natCast_mul] at h1 h2
  generalize m * 2 ^ (i + 1074).toNat = M at h1 h2 ⊢
  generalize B * 2 ^ 1074 = Q at h1 h2 ⊢
  cases s
  ·simp only [Bool.false_eq_true, if_false] at h1; omega
  ·simp only [if_true] at h2; omega
 rw [eb]
 unfold Datum.toInt Datum.integral
 dsimp only
 refine ⟨_, rfl, ?_⟩
 rw [signed_eq, Nat.pow_zero, Nat.mul_one]
 have hc : Toward.zero.cut s (m <<< i.toNat) (-i).toNat ≤ B := by
  refine cut_le s _ _ _ ?_
  rw [Nat.shiftLeft_eq]
  by_cases h0 : i ≤ 0
  ·obtain ⟨p, rfl⟩ : ∃ p : Nat, i = -(p : Int) := ⟨i.natAbs, by omega⟩
   have e1 : (-(p : Int)).toNat = 0 := by omega
   have e2 : (- -(p : Int)).toNat = p := by omega
   rw [e1, e2, Nat.pow_zero, Nat.mul_one]
   have e : 1074 = (-(p : Int) + 1074).toNat + p := by omega
   have g' : m * 2 ^ (-(p : Int) + 1074).toNat ≤ B * 2 ^ ((-(p : Int) + 1074).toNat + p) := by rw [← e]; exact hm
   rw [Nat.pow_add, Nat.mul_comm (2 ^ _) (2 ^ p), ← Nat.mul_assoc] at g'
   exact Nat.le_of_mul_le_mul_right g' (Nat.two_pow_pos _)
  ·have e2 : (-i).toNat = 0 := by omega
   have e : (i + 1074).toNat = i.toNat + 1074 := by omega
   rw [e, Nat.pow_add, ← Nat.mul_assoc] at hm
   rw [e2, Nat.pow_zero, Nat.mul_one]
   exact Nat.le_of_mul_le_mul_right hm (Nat.two_pow_pos 1074)
 generalize Toward.zero.cut s (m <<< i.toNat) (-i).toNat = c at hc ⊢
 cases s
 ·simp only [Bool.false_eq_true, if_false]; omega
 ·simp only [if_true]; omega
theorem fin_between {a b c : Nat} (ha : fin a = true) (hc : fin c = true) (h1 : double.order b a = some .gt ∨ double.order b a = some .eq) (h2 : double.order b c = some .lt ∨ double.order b c = some .eq) : fin b = true := by
 obtain ⟨s, m, i, ea⟩ := fin_iff ha
 obtain ⟨t, n, j, ec⟩ := fin_iff hc
 unfold Format.order at h1 h2
 unfold fin
 rw [ea] at h1
 rw [ec] at h2
 cases hb : double.read b with
 | number => rfl
 | infinity u => rw [hb] at h1 h2; cases u <;> simp [Datum.order] at h1 h2
 | nan => rw [hb] at h1; simp [Datum.order] at h1
end Go.Proofs.YtdgnekknmpfepaaGreatDoor.Fl
