import Derived.Test.YtncppcjobimilaaQPieces
import Derived.Lib.IndexMore
import Derived.Test.YtncppcjobimilaaT1
import Derived.Test.YtncppcjobimilaaT2
import Derived.Test.YtncppcjobimilaaT14
/- pieces.Check; what a text is cut into, with more ahead. -/
namespace Go.Proofs.Ytncppcjobimilaa.Pure
open Go.RowKit Go.Proofs.Ytncppcjobimilaa.P Go.Proofs.YtncppcjobimilaaW.PrintWords Go.Proofs.YtncppcjobimilaaW.PrintLast
set_option linter.unusedVariables false
theorem awake13_ev : Ev (fun k => toponymlaw13_awake.f k) true := by
 refine Ev.of toponymlaw13_awake.mono (k := 100) ?_
 decide +kernel
theorem match2_ev (v a b : ByteArray) (hv : v.size ≤ 4611686018427387904) (ha : a.size ≤ 4611686018427387904) (hb : b.size ≤ 4611686018427387904) :
  Ev (fun k => pieces_Match.f k v a ([] : List ByteArray) b true true) (pre (bl v) (bl a) && suf ((bl v).drop (bl a).length) (bl b)) := by
 refine ev_eq (match_ev v a b [] true true hv ha hb (fun h => absurd rfl h)) ?_
 simp [flagsOk, matchS, fcut]
theorem drop_both (v a b : ByteArray) (h1 : a.size ≤ v.size) (h2 : b.size ≤ v.size - a.size) : suf ((bl v).drop (bl a).length) (bl b) = decide ((bl v).drop (v.size - b.size) = bl b) := by
 unfold suf
 rw [List.length_drop, bl_len, bl_len, bl_len, List.drop_drop]
 have e : a.size + (v.size - a.size - b.size) = v.size - b.size := by omega
 rw [e]
 simp [h2]
set_option linter.unusedSimpArgs false
theorem dropA (x r : List UInt8) (i : Nat) : (x ++ r).drop (x.length + i) = r.drop i := by
 rw [List.drop_append, List.drop_of_length_le (by omega)]
 simp
theorem cut_less (x r s : List UInt8) (h : (Lib.cut r s).2.2 = true) : (Lib.cut (x ++ r) s).2.2 = true ∧ ∃ y, (Lib.cut (x ++ r) s).2.1 = y ++ (Lib.cut r s).2.1 := by
 have hi : 0 ≤ Lib.index r s := by
  unfold Lib.cut at h
  by_cases h0 : 0 ≤ Lib.index r s
  ·exact h0
  ·rw [if_neg h0] at h; exact absurd h (by simp)
 rcases Lib.index_spec r s with ⟨h1, _⟩ | ⟨i, h1, h2, h3, _⟩
 ·omega
 have room := Lib.index_room r s hi
 have o : Lib.occAt (x ++ r) s (x.length + i) = true := by
  unfold Lib.occAt at h3 ⊢
  rw [dropA]
  exact h3
 rcases Lib.index_spec (x ++ r) s with ⟨g1, g2⟩ | ⟨j, g1, g2, g3, g4⟩
 ·have := g2 (x.length + i) (by simp; omega)
  rw [o] at this; exact absurd this (by simp)
 have hj : j ≤ x.length + i := by
  rcases Nat.lt_or_ge (x.length + i) j with q | q
  ·have := g4 _ q
   rw [o] at this; exact absurd this (by simp)
  ·exact q
 have e1 : Lib.cut (x ++ r) s = ((x ++ r).take j, (x ++ r).drop (j + s.length), true) := by
  unfold Lib.cut
  rw [if_pos (by rw [g1]; omega), g1, Int.toNat_natCast]
 have e2 : Lib.cut r s = (r.take i, r.drop (i + s.length), true) := by
  unfold Lib.cut
  rw [if_pos (by rw [h1]; omega), h1, Int.toNat_natCast]
 rw [e1, e2]
 refine ⟨rfl, ((x ++ r).drop (j + s.length)).take (x.length + i - j), ?_⟩
 have e3 : r.drop (i + s.length) = (x ++ r).drop (x.length + (i + s.length)) := (dropA x r _).symm
 show (x ++ r).drop (j + s.length) = _ ++ r.drop (i + s.length)
 rw [e3]
 have e4 : (j + s.length) + (x.length + i - j) = x.length + (i + s.length) := by omega
 have e5 := (List.take_append_drop (x.length + i - j) ((x ++ r).drop (j + s.length))).symm
 rw [List.drop_drop, e4] at e5
 exact e5
theorem fcut_more (l : List (List UInt8)) : ∀ (x r : List UInt8), fcut true r l = true → fcut true (x ++ r) l = true := by
 induction l with
 | nil => intro x r _; rfl
 | cons s l ih =>
  intro x r h
  rw [fcut_cons, Bool.true_and] at h ⊢
  cases hc : (Lib.cut r s).2.2 with
  | false => rw [hc, fcut_false] at h; exact absurd h (by simp)
  | true =>
   rw [hc] at h
   obtain ⟨q, y, e⟩ := cut_less x r s hc
   rw [q, e]
   exact ih y _ h
theorem index_ev (a : ByteArray) (sf : List ByteArray) : ∀ (pr : List ByteArray), (pr ++ sf).length ≤ 100 → ∃ i : Int, Ev (fun k => slices_Index_string_string.l0 k (pr ++ sf) a ((pr ++ sf).length : Int) (pr.length : Int)) i := by
 induction sf with
 | nil =>
  intro pr h
  refine ⟨-1, Ev.step (fun k => by simp only [slices_Index_string_string.l0]; rfl) ?_⟩
  exact ev_neg (by simp) (Ev.now _)
 | cons s l ih =>
  intro pr h
  have hl : (pr ++ s :: l).length = pr.length + l.length + 1 := by simp; omega
  have e1 : pr ++ s :: l = (pr ++ [s]) ++ l := by simp
  have hw : wrap64 ((pr.length : Int) + 1) = ((pr ++ [s]).length : Int) := by rw [w64 (by omega) (by omega)]; simp
  obtain ⟨i, hi⟩ := ih (pr ++ [s]) (by rw [← e1]; exact h)
  rw [← e1] at hi
  by_cases q : a.toList = s.toList
  ·refine ⟨(pr.length : Int), Ev.step (fun k => by simp only [slices_Index_string_string.l0]; rfl) ?_⟩
   refine ev_pos (by omega) (ev_pos (by omega) (ev_pos (by omega) ?_))
   rw [rdOf_mid]
   exact ev_pos (by first | exact q | exact q.symm) (Ev.now _)
  ·refine ⟨i, Ev.step (fun k => by simp only [slices_Index_string_string.l0]; rfl) ?_⟩
   refine ev_pos (by omega) (ev_pos (by omega) (ev_pos (by omega) ?_))
   rw [rdOf_mid, hw]
   exact ev_neg (by first | exact q | exact fun g => q g.symm) hi
theorem check_ev (a b : ByteArray) (l : List ByteArray) (f g : Bool) (h : l.length ≤ 100) : ∃ c : Int, Ev (fun k => pieces_Check.f k a l b f g) c ∧ (c = 0 → f = true ∨ g = true ∨ l.length ≠ 0) := by
 obtain ⟨i, hi⟩ := index_ev (⟨#[]⟩ : ByteArray) l [] h
 have con : Ev (fun k => slices_Contains_string_string.f k l (⟨#[]⟩ : ByteArray)) (decide (i ≥ 0)) := by
  show Ev (fun k => slices_Contains_string_string.f k l (⟨#[]⟩ : ByteArray)) _
  unfold slices_Contains_string_string.f slices_Index_string_string.f
  exact Ev.bind hi (Ev.now _)
 have j1 : ∀ x : Bool, ∃ c : Int, Ev (fun k => pieces_Check.j1 k x a l b f g) c ∧ (x = true → c = 2) := by
  intro x
  cases x with
  | true => exact ⟨2, Ev.step (fun k => by simp only [pieces_Check.j1]; rfl) (ev_pos (by simp) (Ev.now _)), fun _ => rfl⟩
  | false =>
   have : ∃ c : Int, Ev (fun k => if (f == (a.toList == ([] : List UInt8))) = true then (some 2) else (if (g == (b.toList == ([] : List UInt8))) = true then (some 2) else ((slices_Contains_string_string.f k l (⟨#[]⟩ : ByteArray)).bind fun t104 => (if t104 = true then (some 2) else (some 0))))) c := by
    by_cases q1 : (f == (a.toList == ([] : List UInt8))) = true
    ·exact ⟨2, ev_pos q1 (Ev.now _)⟩
    by_cases q2 : (g == (b.toList == ([] : List UInt8))) = true
    ·exact ⟨2, ev_neg q1 (ev_pos q2 (Ev.now _))⟩
    by_cases q3 : i ≥ 0
    ·exact ⟨2, ev_neg q1 (ev_neg q2 (Ev.bind con (ev_pos (by simp [q3]) (Ev.now _))))⟩
    ·exact ⟨0, ev_neg q1 (ev_neg q2 (Ev.bind con (ev_neg (by simp [q3]) (Ev.now _))))⟩
   obtain ⟨c, hc⟩ := this
   exact ⟨c, Ev.step (fun k => by simp only [pieces_Check.j1]; rfl) (ev_neg (by simp) hc), fun q => by simp at q⟩
 have j0 : ∀ x : Bool, ∃ c : Int, Ev (fun k => pieces_Check.j0 k x a l b f g) c ∧ (x = true → c = 2) := by
  intro x
  cases x with
  | true =>
   obtain ⟨c, h1, h2⟩ := j1 true
   exact ⟨c, Ev.step (fun k => by simp only [pieces_Check.j0]; rfl) (ev_pos (by simp) h1), fun _ => h2 rfl⟩
  | false =>
   obtain ⟨c, h1, h2⟩ := j1 (decide ((l.length : Int) > 6))
   exact ⟨c, Ev.step (fun k => by simp only [pieces_Check.j0]; rfl) (ev_neg (by simp) h1), fun q => by simp at q⟩
 have go : ∀ x : Bool, (f = true → x = false) → (f = false → g = true → x = false) → (f = false → g = false → x = ((l.length : Int) == 0)) → ∃ c : Int, Ev (fun k => pieces_Check.f k a l b f g) c ∧ (c = 0 → f = true ∨ g = true ∨ l.length ≠ 0) := by
  intro x h1 h2 h3
  obtain ⟨c, e1, e2⟩ := j0 x
  refine ⟨c, ?_, fun q => ?_⟩
  ·show Ev (fun k => pieces_Check.f k a l b f g) c
   unfold pieces_Check.f
   cases f with
   | true => rw [h1 rfl] at e1; exact ev_pos (by simp) e1
   | false =>
    cases g with
    | true => rw [h2 rfl rfl] at e1; exact ev_neg (by simp) (ev_pos (by simp) e1)
    | false => rw [h3 rfl rfl] at e1; exact ev_neg (by simp) (ev_neg (by simp) e1)
  ·cases f with
   | true => exact Or.inl rfl
   | false =>
    cases g with
    | true => exact Or.inr (Or.inl rfl)
    | false =>
     refine Or.inr (Or.inr fun q2 => ?_)
     have : x = true := by rw [h3 rfl rfl, q2]; rfl
     rw [e2 this] at q
     exact absurd q (by decide)
 cases f with
 | true => exact go false (fun _ => rfl) (fun q => by simp at q) (fun q => by simp at q)
 | false =>
  cases g with
  | true => exact go false (fun _ => rfl) (fun _ _ => rfl) (fun _ q => by simp at q)
  | false => exact go _ (fun q => by simp at q) (fun _ q => by simp at q) (fun _ _ => rfl)
end Go.Proofs.Ytncppcjobimilaa.Pure
