import Derived.Test.YtdgnekknmpfepaaGreatDoorQSyntaxEv
import Derived.Test.YtdgnekknmpfepaaGreatDoorQAscii
import Derived.Test.YtdgnekknmpfepaaGreatDoorQOidText
import Derived.Test.YtdgnekknmpfepaaGreatDoorQGaussText
import Derived.Test.YtdgnekknmpfepaaGreatDoorP1
import Derived.Test.YtdgnekknmpfepaaGreatDoorP6
import Derived.Test.YtdgnekknmpfepaaGreatDoorP8
import Derived.Test.YtdgnekknmpfepaaGreatDoorP9
/- SyntaxExact: what is a truth, digits, a phone number, a whole number, an identifier or a number of two parts is ASCII; ASCII that is not empty is a text; all that is not too long is octets; what is too long is of no syntax. -/
namespace Go.Proofs.YtdgnekknmpfepaaGreatDoor.Pure
open Go.RowKit Go.Proofs.YtdgnekknmpfepaaGreatDoor.P Go.Proofs.YtdgnekknmpfepaaGreatDoorW.PrintWords Go.Proofs.YtdgnekknmpfepaaGreatDoorW.PrintLast
open Utf
set_option linter.unusedVariables false
set_option linter.unusedSimpArgs false
set_option maxRecDepth 100000
def asc (S : ByteArray) : Bool := (ints S).all (fun c => decide (c < 128))
theorem asc_iff (S : ByteArray) : asc S = true ↔ Asc (ints S) := by
 unfold asc Asc
 rw [List.all_eq_true]
 constructor
 ·intro h x hx
  exact ⟨(ints_range S x hx).1, by simpa using h x hx⟩
 ·intro h x hx
  simpa using (h x hx).2
theorem asc_bytes {S : ByteArray} (h : ∀ c ∈ S.data.toList, c.toNat < 128) : asc S = true := by
 unfold asc ints
 rw [List.all_eq_true]
 intro x hx
 obtain ⟨c, hc, rfl⟩ := List.mem_map.1 hx
 have := h c hc
 simp
 omega
theorem asc_list {l : List UInt8} (h : ∀ c ∈ l, c.toNat < 128) : asc (⟨l.toArray⟩ : ByteArray) = true := asc_bytes (by simpa using h)
theorem itoa_low (n : Int) : ∀ c ∈ Lib.itoa n, c.toNat < 128 := fun c hc => by
 rcases G.itoa_char c hc with h | h <;> omega
theorem join_low {ps : List (List UInt8)} (h : ∀ p ∈ ps, ∀ c ∈ p, c.toNat < 128) : ∀ c ∈ Lib.join ps [46], c.toNat < 128 := by
 have tail : ∀ qs : List (List UInt8), (∀ p ∈ qs, ∀ c ∈ p, c.toNat < 128) → ∀ c ∈ Lib.joinTail [46] qs, c.toNat < 128 := by
  intro qs
  induction qs with
  | nil => intro _ c hc; simp [Lib.joinTail] at hc
  | cons q r ih =>
   intro hq c hc
   have e : Lib.joinTail [46] (q :: r) = [46] ++ q ++ Lib.joinTail [46] r := by first | rfl | simp [Lib.joinTail]
   rw [e] at hc
   simp only [List.mem_append, List.mem_singleton] at hc
   rcases hc with (rfl | hc) | hc
   ·decide
   ·exact hq q List.mem_cons_self c hc
   ·exact ih (fun p hp => hq p (List.mem_cons_of_mem _ hp)) c hc
 cases ps with
 | nil => intro c hc; simp [Lib.join] at hc
 | cons p r =>
  intro c hc
  have e : Lib.join (p :: r) [46] = p ++ Lib.joinTail [46] r := Lib.join_cons _ _ _
  rw [e] at hc
  rcases List.mem_append.1 hc with hc | hc
  ·exact h p List.mem_cons_self c hc
  ·exact tail r (fun p hp => h p (List.mem_cons_of_mem _ hp)) c hc
theorem oid_asc {s : ByteArray} {r : List Int × Int} (h : O.told s r) (h0 : r.2 = 0) : asc s = true := by
 rcases h with rfl | ⟨l, _, rfl, _⟩
 ·exact absurd h0 (by decide)
 ·refine asc_list (join_low (fun p hp => ?_))
  obtain ⟨n, _, rfl⟩ := List.mem_map.1 hp
  exact itoa_low n
theorem gText_low (a b : Int) : ∀ c ∈ P.gText a b, c.toNat < 128 := by
 intro c hc
 have key : c ∈ Lib.itoa a ∨ c ∈ Lib.itoa b ∨ c = 105 ∨ c = 43 := by
  unfold P.gText at hc
  split at hc
  ·exact .inl hc
  ·split at hc
   ·rcases List.mem_append.1 hc with h | h
    ·exact .inr (.inl h)
    ·exact .inr (.inr (.inl (List.mem_singleton.1 h)))
   ·split at hc
    ·rcases List.mem_append.1 hc with h | h
     ·exact .inl h
     ·rcases List.mem_append.1 h with h | h
      ·exact .inr (.inr (.inr (List.mem_singleton.1 h)))
      ·rcases List.mem_append.1 h with h | h
       ·exact .inr (.inl h)
       ·exact .inr (.inr (.inl (List.mem_singleton.1 h)))
    ·rcases List.mem_append.1 hc with h | h
     ·exact .inl h
     ·rcases List.mem_append.1 h with h | h
      ·exact .inr (.inl h)
      ·exact .inr (.inr (.inl (List.mem_singleton.1 h)))
 rcases key with h | h | rfl | rfl
 ·exact itoa_low a c h
 ·exact itoa_low b c h
 ·decide
 ·decide
theorem gauss_asc {s : ByteArray} {r : (Nat × Nat) × Int} (h : G.told s r) (h0 : r.2 = 0) : asc s = true := by
 rcases h with rfl | ⟨a, b, _, _, rfl, _⟩
 ·exact absurd h0 (by decide)
 ·exact asc_list (gText_low a b)
theorem word_loop {S : ByteArray} (hs : S.size ≤ 1000) : ∀ (suf pre : List Int), ints S = pre ++ suf → ∃ v, Ev (fun k => dn_Word.l0 k S (pre.length : Int)) v ∧ (v = true → ∀ c ∈ suf, c < 128)
 | [], pre, h => by
  have hl := congrArg List.length h
  rw [ints_length, List.append_nil] at hl
  exact ⟨true, Ev.step (fun k => by simp only [dn_Word.l0]; rfl) (ev_neg (by omega) (Ev.now _)), fun _ c hc => absurd hc (by simp)⟩
 | c :: t, pre, h => by
  have hl := congrArg List.length h
  rw [ints_length, List.length_append, List.length_cons] at hl
  have hb : bt S (pre.length : Int) = c := bt_mid h
  have h' : ints S = (pre ++ [c]) ++ t := by rw [h]; simp
  have hn : ((pre ++ [c]).length : Int) = (pre.length : Int) + 1 := len_snoc pre c
  obtain ⟨v, hv, hk⟩ := word_loop hs t (pre ++ [c]) h'
  rw [hn] at hv
  have next : c < 128 → (v = true → ∀ x ∈ c :: t, x < 128) := fun hc e x hx => by
   rcases List.mem_cons.1 hx with rfl | hx
   ·exact hc
   ·exact hk e x hx
  have no : false = true → ∀ x ∈ c :: t, x < 128 := fun e => by cases e
  have key : ∀ w : Nat → Option Bool, (∃ v, Ev (fun k => w k) v ∧ (v = true → ∀ x ∈ c :: t, x < 128)) → ∃ v, Ev (fun k => if (pre.length : Int) < (S.size : Int) then (if 0 ≤ (pre.length : Int) then w k else none) else some true) v ∧ (v = true → ∀ x ∈ c :: t, x < 128) := fun w ⟨v, h1, h2⟩ => ⟨v, ev_pos (by omega) (ev_pos (by omega) h1), h2⟩
  have st : ∀ (f : Nat → Option Bool), (∀ k, dn_Word.l0 (k + 1) S (pre.length : Int) = f k) → (∃ v, Ev f v ∧ (v = true → ∀ x ∈ c :: t, x < 128)) → ∃ v, Ev (fun k => dn_Word.l0 k S (pre.length : Int)) v ∧ (v = true → ∀ x ∈ c :: t, x < 128) := fun f h1 ⟨v, h2, h3⟩ => ⟨v, Ev.step h1 h2, h3⟩
  refine st _ (fun k => by simp only [dn_Word.l0]; rfl) (key _ ?_)
  rw [hb, w64 (x := (pre.length : Int) + 1) (by omega) (by omega)]
  have sm : dn_small.f c = some (decide (97 ≤ c) && decide (c ≤ 122)) := by
   unfold dn_small.f
   by_cases g : c ≥ 97
   ·rw [if_pos g]; simp; omega
   ·rw [if_neg g]; simp; omega
  by_cases g : (decide (97 ≤ c) && decide (c ≤ 122)) = true
  ·refine ⟨v, ev_bind0 sm (ev_pos g hv), next ?_⟩
   simp at g
   omega
  ·by_cases g1 : c < 48
   ·by_cases g2 : c = 45
    ·exact ⟨v, ev_bind0 sm (ev_neg g (ev_pos g1 (ev_pos g2 hv))), next (by omega)⟩
    ·exact ⟨false, ev_bind0 sm (ev_neg g (ev_pos g1 (ev_neg g2 (Ev.now _)))), no⟩
   ·by_cases g3 : c > 57
    ·by_cases g2 : c = 45
     ·exact ⟨v, ev_bind0 sm (ev_neg g (ev_neg g1 (ev_pos g3 (ev_pos g2 hv)))), next (by omega)⟩
     ·exact ⟨false, ev_bind0 sm (ev_neg g (ev_neg g1 (ev_pos g3 (ev_neg g2 (Ev.now _))))), no⟩
    ·exact ⟨v, ev_bind0 sm (ev_neg g (ev_neg g1 (ev_neg g3 hv))), next (by omega)⟩
theorem nil_iff (S : ByteArray) : S.toList = ([] : List UInt8) ↔ S.size = 0 := by
 rw [Lib.toList_data, List.eq_nil_iff_length_eq_zero]
 show S.data.toList.length = 0 ↔ S.data.size = 0
 simp
theorem word_any {S : ByteArray} (hs : S.size ≤ 1000) : ∃ v, Ev (fun k => dn_Word.f k S) v ∧ (v = true → asc S = true) := by
 have out : Ev (fun k => dn_Word.j0 k S true) false := Ev.step (fun k => by simp only [dn_Word.j0]; rfl) (ev_pos (c := true = true) rfl (Ev.now _))
 have no : false = true → asc S = true := fun e => by cases e
 unfold dn_Word.f
 by_cases c0 : S.toList = ([] : List UInt8)
 ·exact ⟨false, ev_pos c0 out, no⟩
 by_cases c1 : (S.size : Int) > 16
 ·exact ⟨false, ev_neg c0 (ev_pos c1 out), no⟩
 have hz : 0 < S.size := by
  have := mt (nil_iff S).2 c0
  omega
 have sm : dn_small.f (bt S 0) = some (decide (97 ≤ bt S 0) && decide (bt S 0 ≤ 122)) := by
  unfold dn_small.f
  by_cases g : bt S 0 ≥ 97
  ·rw [if_pos g]; simp; omega
  ·rw [if_neg g]; simp; omega
 by_cases g : (decide (97 ≤ bt S 0) && decide (bt S 0 ≤ 122)) = true
 ·have hne : ∃ c t, ints S = c :: t := by
   have := ints_length S
   cases hI : ints S with
   | nil => rw [hI] at this; simp at this; omega
   | cons c t => exact ⟨c, t, rfl⟩
  obtain ⟨c, t, hI⟩ := hne
  have hb : bt S 0 = c := bt_mid (pre := []) (suf := t) hI
  obtain ⟨v, hv, hk⟩ := word_loop hs t [c] hI
  refine ⟨v, ev_neg c0 (ev_neg c1 (ev_pos (by omega) (ev_bind0 sm ?_))), fun e => ?_⟩
  ·rw [g]
   exact Ev.step (fun k => by simp only [dn_Word.j0]; rfl) (ev_neg (c := false = true) (by decide) hv)
  ·unfold asc
   rw [hI, List.all_eq_true]
   intro x hx
   rw [hb] at g
   rcases List.mem_cons.1 hx with rfl | hx
   ·simp at g ⊢; omega
   ·simpa using hk e x hx
 ·refine ⟨false, ev_neg c0 (ev_neg c1 (ev_pos (by omega) (ev_bind0 sm ?_))), no⟩
  rw [(Bool.not_eq_true _).mp g]
  exact out
theorem known_in {n : Int} (h0 : 1 ≤ n) (h1 : n ≤ 10) : syntax_Known.f n = some true := by
 unfold syntax_Known.f
 rw [if_pos h0, decide_eq_true h1]
theorem check_big {S : ByteArray} (hs : 400 < S.size) {n : Int} (h0 : 1 ≤ n) (h1 : n ≤ 10) : Ev (fun k => syntax_Check.f k n S) 3 := by
 unfold syntax_Check.f
 exact ev_bind0 (known_in h0 h1) (ev_pos rfl (ev_pos (by omega) (Ev.now _)))
theorem fits_big {S : ByteArray} (hs : 400 < S.size) : ∀ (d : Nat) (n : Int), 1 ≤ n → n + d = 11 → Ev (fun k => syntax_Fits.l0 k S [] n) []
 | 0, n, h0, h1 => by
  refine Ev.step (fun k => by simp only [syntax_Fits.l0]; rfl) (ev_bind0 (a := false) ?_ (ev_neg (c := false = true) (by decide) (Ev.now _)))
  unfold syntax_Known.f
  rw [if_pos h0, decide_eq_false (by omega)]
 | d + 1, n, h0, h1 => by
  refine Ev.step (fun k => by simp only [syntax_Fits.l0]; rfl) (ev_bind0 (known_in h0 (by omega)) (ev_pos rfl (Ev.bind (check_big hs h0 (by omega)) (ev_neg (c := (3 : Int) = 0) (by decide) ?_))))
  rw [w64 (by omega) (by omega)]
  exact fits_big hs d (n + 1) (by omega) (by omega)
theorem check_of {S : ByteArray} (hs : S.size ≤ 400) {n : Int} (h0 : 1 ≤ n) (h1 : n ≤ 10) {v : Bool} (h : Ev (fun k => syntax_of.f k n S) v) : Ev (fun k => syntax_Check.f k n S) (if v = true then 0 else 180) := by
 unfold syntax_Check.f
 refine ev_bind0 (known_in h0 h1) (ev_pos rfl (ev_neg (by omega) (Ev.bind h ?_)))
 cases v
 ·exact ev_neg (by decide) (Ev.now _)
 ·exact ev_pos rfl (Ev.now _)
theorem code_zero (v : Bool) : (if v = true then (0 : Int) else 180) = 0 ↔ v = true := by cases v <;> decide
theorem ia5_ev {S : ByteArray} (hs : S.size ≤ 400) : Ev (fun k => syntax_Check.f k 2 S) (if asc S = true then 0 else 180) := by
 refine check_of hs (by omega) (by omega) ?_
 unfold syntax_of.f
 refine ev_neg (by decide) (ev_pos rfl (Ev.bind (span_ev 0 127 (by omega)) (ev_some ?_)))
 rw [Bool.eq_iff_iff, spanV_fst, asc_iff]
 constructor
 ·intro h x hx
  have := h x hx
  exact ⟨by omega, by omega⟩
 ·intro h x hx
  have := h x hx
  omega
theorem oct_ev {S : ByteArray} (hs : S.size ≤ 400) : Ev (fun k => syntax_Check.f k 5 S) 0 := by
 refine check_of (v := true) hs (by omega) (by omega) ?_
 unfold syntax_of.f
 exact ev_neg (by decide) (ev_neg (by decide) (ev_neg (by decide) (ev_neg (by decide) (ev_neg (by decide) (ev_neg (by decide) (ev_neg (by decide) (ev_neg (by decide) (ev_neg (by decide) (ev_pos rfl (Ev.now _))))))))))
theorem text_ev {S : ByteArray} (hs : S.size ≤ 400) (hA : asc S = true) (hne : ¬ S.toList = ([] : List UInt8)) : Ev (fun k => syntax_Check.f k 1 S) 0 := by
 refine check_of (v := true) hs (by omega) (by omega) ?_
 obtain ⟨T, hT⟩ := aval_ev hs ((asc_iff S).1 hA)
 unfold syntax_of.f
 exact ev_pos rfl (Ev.bind hT (ev_neg hne (Ev.now _)))
def Tells (S : ByteArray) (n : Int) : Prop := ∃ v : Bool, Ev (fun k => syntax_of.f k n S) v ∧ (v = true → asc S = true)
theorem t4 (S : ByteArray) : Tells S 4 := by
 unfold Tells syntax_of.f
 by_cases c : S.toList = ([84, 82, 85, 69] : List UInt8)
 ·refine ⟨true, ev_neg (by decide) (ev_neg (by decide) (ev_neg (by decide) (ev_pos rfl (ev_pos c (Ev.now _))))), fun _ => ?_⟩
  refine asc_bytes ?_
  rw [← Lib.toList_data, c]
  decide
 ·refine ⟨_, ev_neg (by decide) (ev_neg (by decide) (ev_neg (by decide) (ev_pos rfl (ev_neg c (Ev.now _))))), fun e => ?_⟩
  refine asc_bytes ?_
  rw [← Lib.toList_data, beq_iff_eq.1 e]
  decide
theorem t7 {S : ByteArray} (hs : S.size ≤ 400) : Tells S 7 := by
 unfold Tells syntax_of.f
 by_cases c : S.toList = ([] : List UInt8)
 ·exact ⟨false, ev_neg (by decide) (ev_neg (by decide) (ev_neg (by decide) (ev_neg (by decide) (ev_neg (by decide) (ev_pos rfl (ev_pos c (Ev.now _))))))), fun e => by cases e⟩
 ·refine ⟨_, ev_neg (by decide) (ev_neg (by decide) (ev_neg (by decide) (ev_neg (by decide) (ev_neg (by decide) (ev_pos rfl (ev_neg c (Ev.bind (num_ev (by omega)) (Ev.now _)))))))), fun e => ?_⟩
  rw [asc_iff]
  intro x hx
  have := List.all_eq_true.1 e x hx
  simp at this
  exact ⟨by omega, by omega⟩
theorem t8 {S : ByteArray} (hs : S.size ≤ 400) : Tells S 8 := by
 unfold Tells syntax_of.f
 have h := span_ev (S := S) 32 126 (by omega)
 by_cases c : (spanV 32 126 (ints S) 0).1 = true
 ·refine ⟨_, ev_neg (by decide) (ev_neg (by decide) (ev_neg (by decide) (ev_neg (by decide) (ev_neg (by decide) (ev_neg (by decide) (ev_pos rfl (Ev.bind h (ev_pos c (Ev.now _))))))))), fun _ => ?_⟩
  rw [asc_iff]
  intro x hx
  have := (spanV_fst 32 126 (ints S) 0).1 c x hx
  exact ⟨by omega, by omega⟩
 ·exact ⟨false, ev_neg (by decide) (ev_neg (by decide) (ev_neg (by decide) (ev_neg (by decide) (ev_neg (by decide) (ev_neg (by decide) (ev_pos rfl (Ev.bind h (ev_neg c (Ev.now _))))))))), fun e => by cases e⟩
theorem t3 (S : ByteArray) : Tells S 3 := by
 unfold Tells syntax_of.f
 obtain ⟨v, e, hv, hf⟩ := int_forms S
 refine ⟨_, ev_neg (by decide) (ev_neg (by decide) (ev_pos rfl (ev_bind0 hv (Ev.now _)))), fun h => ?_⟩
 rcases hf with ⟨_, hi⟩ | ⟨_, he⟩
 ·have : S = (⟨(Lib.itoa v).toArray⟩ : ByteArray) := (ints_inj ((toList_iff _ _).1 hi)).symm
  rw [this]
  exact asc_list (itoa_low v)
 ·exact absurd (show e = 0 by simpa using h) (by omega)
theorem t9 {S : ByteArray} (hs : S.size ≤ 400) : Tells S 9 := by
 unfold Tells syntax_of.f
 obtain ⟨v, hv, hk⟩ := word_any (S := S) (by omega)
 cases v
 ·obtain ⟨r, hr, ht⟩ := O.parse_any S
  exact ⟨_, ev_neg (by decide) (ev_neg (by decide) (ev_neg (by decide) (ev_neg (by decide) (ev_neg (by decide) (ev_neg (by decide) (ev_neg (by decide) (ev_pos rfl (Ev.bind hv (ev_neg (by decide) (Ev.bind hr (Ev.now _))))))))))), fun e => oid_asc ht (by simpa using e)⟩
 ·exact ⟨true, ev_neg (by decide) (ev_neg (by decide) (ev_neg (by decide) (ev_neg (by decide) (ev_neg (by decide) (ev_neg (by decide) (ev_neg (by decide) (ev_pos rfl (Ev.bind hv (ev_pos rfl (Ev.now _)))))))))), fun _ => hk rfl⟩
theorem t10 (S : ByteArray) : Tells S 10 := by
 unfold Tells syntax_of.f
 obtain ⟨r, hr, ht⟩ := G.parse_any S
 exact ⟨_, ev_neg (by decide) (ev_neg (by decide) (ev_neg (by decide) (ev_neg (by decide) (ev_neg (by decide) (ev_neg (by decide) (ev_neg (by decide) (ev_neg (by decide) (ev_pos rfl (Ev.bind hr (Ev.now _)))))))))), fun e => gauss_asc ht (by simpa using e)⟩
theorem exact_end {S : ByteArray} (hs : S.size ≤ 400) : Ev (fun k => if asc S = true then (if S.toList = ([] : List UInt8) then ((syntax_Check.f k 5 S).bind fun t377 => (if t377 = 0 then ((toponymlaw19_awake.f k).bind fun t378 => (some t378)) else (some false))) else ((syntax_Check.f k 1 S).bind fun t379 => (if t379 = 0 then ((syntax_Check.f k 5 S).bind fun t380 => (if t380 = 0 then ((toponymlaw19_awake.f k).bind fun t381 => (some t381)) else (some false))) else (some false)))) else ((syntax_Check.f k 5 S).bind fun t382 => (if t382 = 0 then ((toponymlaw19_awake.f k).bind fun t383 => (some t383)) else (some false)))) true := by
 refine ev_ite (fun hA => ?_) (fun _ => Ev.bind (oct_ev hs) (ev_pos rfl awake19))
 refine ev_ite (fun _ => Ev.bind (oct_ev hs) (ev_pos rfl awake19)) (fun hne => ?_)
 exact Ev.bind (text_ev hs hA hne) (ev_pos rfl (Ev.bind (oct_ev hs) (ev_pos rfl awake19)))
theorem exact_loop {S : ByteArray} (hs : S.size ≤ 400) : ∀ (suf pre : List Int), (pre ++ suf).length ≤ 100 → (∀ n ∈ suf, 1 ≤ n ∧ n ≤ 10 ∧ Tells S n) →
  Ev (fun k => toponymlaw19_SyntaxExact.l0 k S (asc S) (pre ++ suf) ((pre ++ suf).length : Int) (pre.length : Int)) true
 | [], pre, hl, _ => by
  refine Ev.step (fun k => by simp only [toponymlaw19_SyntaxExact.l0]; rfl) (ev_neg (by simp) ?_)
  exact exact_end hs
 | a :: t, pre, hl, h => by
  obtain ⟨h0, h1, v, hv, hk⟩ := h a List.mem_cons_self
  refine Ev.step (fun k => by simp only [toponymlaw19_SyntaxExact.l0]; rfl) (ev_pos (mid_lt pre a t) (ev_pos (by omega) (ev_pos (mid_lt pre a t) ?_)))
  rw [rd_mid]
  have ih := exact_loop hs t (pre ++ [a]) (by simpa using hl) (fun n hn => h n (List.mem_cons_of_mem _ hn))
  rw [← mid_snoc, len_snoc] at ih
  simp only [List.length_append, List.length_cons] at hl
  rw [w64 (x := (pre.length : Int) + 1) (by omega) (by omega)]
  refine Ev.bind (check_of hs h0 h1 hv) ?_
  refine ev_ite (fun c => ?_) (fun _ => ih)
  exact ev_pos (hk ((code_zero v).1 c)) ih
theorem SyntaxExact : toponymlaw19_SyntaxExact.Pure := by
 intro S hS
 refine Ev.rounds ?_
 unfold toponymlaw19_SyntaxExact.f
 by_cases c : (S.size : Int) > 400
 ·refine ev_pos c ?_
  have hf : Ev (fun k => syntax_Fits.f k S) [] := fits_big (by omega) 10 1 (by omega) (by omega)
  exact Ev.bind hf (ev_pos rfl (Ev.bind (check_big (by omega) (by omega) (by omega)) (ev_pos rfl awake19)))
 ·refine ev_neg c ?_
  have hs : S.size ≤ 400 := by omega
  refine Ev.bind (ia5_ev hs) ?_
  have e : ((if asc S = true then (0 : Int) else 180) == 0) = asc S := by cases asc S <;> rfl
  rw [e]
  have := exact_loop hs [4, 7, 8, 3, 9, 10] [] (by decide) (fun n hn => by
   simp only [List.mem_cons, List.not_mem_nil, or_false] at hn
   rcases hn with rfl | rfl | rfl | rfl | rfl | rfl
   ·exact ⟨by omega, by omega, t4 S⟩
   ·exact ⟨by omega, by omega, t7 hs⟩
   ·exact ⟨by omega, by omega, t8 hs⟩
   ·exact ⟨by omega, by omega, t3 S⟩
   ·exact ⟨by omega, by omega, t9 hs⟩
   ·exact ⟨by omega, by omega, t10 S⟩)
  exact ev_bind0 rfl this
end Go.Proofs.YtdgnekknmpfepaaGreatDoor.Pure
