import Derived.Test.YtncppcjobimilaaPurePiecesEnds
import Derived.Lib.IndexMore
import Derived.Test.YtncppcjobimilaaP1
import Derived.Test.YtncppcjobimilaaP14
import Derived.Test.YtncppcjobimilaaP15
/- PiecesMore: what is found with a piece more is found without it: the leftmost place is as good as any; no condition. -/
namespace Go.Proofs.Ytncppcjobimilaa.Pure
open Go.RowKit Go.Proofs.Ytncppcjobimilaa.P Go.Proofs.YtncppcjobimilaaW.PrintWords Go.Proofs.YtncppcjobimilaaW.PrintLast
set_option linter.unusedVariables false
set_option linter.unusedSimpArgs false
theorem dropA (x r : List UInt8) (i : Nat) : (x ++ r).drop (x.length + i) = r.drop i := by
 rw [List.drop_append, List.drop_of_length_le (by omega)]
 simp
theorem cut_less (x r s : List UInt8) (h : (Lib.cut r s).2.2 = true) : (Lib.cut (x ++ r) s).2.2 = true ∧ ∃ y, (Lib.cut (x ++ r) s).2.1 = y ++ (Lib.cut r s).2.1 := by
 have hi : 0 ≤ Lib.index r s := by
  unfold Lib.cut at h
  by_cases h0 : 0 ≤ Lib.index r s
  ·exact h0
  ·rw [if_neg h0] at h; exact absurd h (by simp)
 rcases Lib.index_spec r s with ⟨h1, _⟩ | ⟨i, h1, h2, h3, _⟩
 ·omega
 have room := Lib.index_room r s hi
 have o : Lib.occAt (x ++ r) s (x.length + i) = true := by
  unfold Lib.occAt at h3 ⊢
  rw [dropA]
  exact h3
 rcases Lib.index_spec (x ++ r) s with ⟨g1, g2⟩ | ⟨j, g1, g2, g3, g4⟩
 ·have := g2 (x.length + i) (by simp; omega)
  rw [o] at this; exact absurd this (by simp)
 have hj : j ≤ x.length + i := by
  rcases Nat.lt_or_ge (x.length + i) j with q | q
  ·have := g4 _ q
   rw [o] at this; exact absurd this (by simp)
  ·exact q
 have e1 : Lib.cut (x ++ r) s = ((x ++ r).take j, (x ++ r).drop (j + s.length), true) := by
  unfold Lib.cut
  rw [if_pos (by rw [g1]; omega), g1, Int.toNat_natCast]
 have e2 : Lib.cut r s = (r.take i, r.drop (i + s.length), true) := by
  unfold Lib.cut
  rw [if_pos (by rw [h1]; omega), h1, Int.toNat_natCast]
 rw [e1, e2]
 refine ⟨rfl, ((x ++ r).drop (j + s.length)).take (x.length + i - j), ?_⟩
 have e3 : r.drop (i + s.length) = (x ++ r).drop (x.length + (i + s.length)) := (dropA x r _).symm
 show (x ++ r).drop (j + s.length) = _ ++ r.drop (i + s.length)
 rw [e3]
 have e4 : (j + s.length) + (x.length + i - j) = x.length + (i + s.length) := by omega
 have e5 := (List.take_append_drop (x.length + i - j) ((x ++ r).drop (j + s.length))).symm
 rw [List.drop_drop, e4] at e5
 exact e5
theorem fcut_more (l : List (List UInt8)) : ∀ (x r : List UInt8), fcut true r l = true → fcut true (x ++ r) l = true := by
 induction l with
 | nil => intro x r _; rfl
 | cons s l ih =>
  intro x r h
  rw [fcut_cons, Bool.true_and] at h ⊢
  cases hc : (Lib.cut r s).2.2 with
  | false => rw [hc, fcut_false] at h; exact absurd h (by simp)
  | true =>
   rw [hc] at h
   obtain ⟨q, y, e⟩ := cut_less x r s hc
   rw [q, e]
   exact ih y _ h
theorem cut_rest (r s : List UInt8) (h : (Lib.cut r s).2.2 = true) : ∃ y, r = y ++ (Lib.cut r s).2.1 := by
 unfold Lib.cut at h ⊢
 by_cases h0 : 0 ≤ Lib.index r s
 ·rw [if_pos h0]
  exact ⟨r.take ((Lib.index r s).toNat + s.length), (List.take_append_drop _ _).symm⟩
 ·rw [if_neg h0] at h; exact absurd h (by simp)
theorem fcut_less (l : List (List UInt8)) : ∀ (r : List UInt8) (i : Nat), fcut true r l = true → fcut true r (l.take i ++ l.drop (i + 1)) = true := by
 induction l with
 | nil => intro r i _; simp [fcut]
 | cons s l ih =>
  intro r i h
  rw [fcut_cons, Bool.true_and] at h
  cases hc : (Lib.cut r s).2.2 with
  | false => rw [hc, fcut_false] at h; exact absurd h (by simp)
  | true =>
   rw [hc] at h
   cases i with
   | zero =>
    obtain ⟨y, e⟩ := cut_rest r s hc
    show fcut true r l = true
    rw [e]
    exact fcut_more l y _ h
   | succ i =>
    show fcut true r (s :: (l.take i ++ l.drop (i + 1))) = true
    rw [fcut_cons, Bool.true_and, hc]
    exact ih _ i h
theorem index_ev (a : ByteArray) (sf : List ByteArray) : ∀ (pr : List ByteArray), (pr ++ sf).length ≤ 100 → ∃ i : Int, Ev (fun k => slices_Index_string_string.l0 k (pr ++ sf) a ((pr ++ sf).length : Int) (pr.length : Int)) i := by
 induction sf with
 | nil =>
  intro pr h
  refine ⟨-1, Ev.step (fun k => by simp only [slices_Index_string_string.l0]; rfl) ?_⟩
  exact ev_neg (by simp) (Ev.now _)
 | cons s l ih =>
  intro pr h
  have hl : (pr ++ s :: l).length = pr.length + l.length + 1 := by simp; omega
  have e1 : pr ++ s :: l = (pr ++ [s]) ++ l := by simp
  have hw : wrap64 ((pr.length : Int) + 1) = ((pr ++ [s]).length : Int) := by rw [w64 (by omega) (by omega)]; simp
  obtain ⟨i, hi⟩ := ih (pr ++ [s]) (by rw [← e1]; exact h)
  rw [← e1] at hi
  by_cases q : a.toList = s.toList
  ·refine ⟨(pr.length : Int), Ev.step (fun k => by simp only [slices_Index_string_string.l0]; rfl) ?_⟩
   refine ev_pos (by omega) (ev_pos (by omega) (ev_pos (by omega) ?_))
   rw [rdOf_mid]
   exact ev_pos (by first | exact q | exact q.symm) (Ev.now _)
  ·refine ⟨i, Ev.step (fun k => by simp only [slices_Index_string_string.l0]; rfl) ?_⟩
   refine ev_pos (by omega) (ev_pos (by omega) (ev_pos (by omega) ?_))
   rw [rdOf_mid, hw]
   exact ev_neg (by first | exact q | exact fun g => q g.symm) hi
theorem check_ev (a b : ByteArray) (l : List ByteArray) (f g : Bool) (h : l.length ≤ 100) : ∃ c : Int, Ev (fun k => pieces_Check.f k a l b f g) c ∧ (c = 0 → f = true ∨ g = true ∨ l.length ≠ 0) := by
 obtain ⟨i, hi⟩ := index_ev (⟨#[]⟩ : ByteArray) l [] h
 have con : Ev (fun k => slices_Contains_string_string.f k l (⟨#[]⟩ : ByteArray)) (decide (i ≥ 0)) := by
  show Ev (fun k => slices_Contains_string_string.f k l (⟨#[]⟩ : ByteArray)) _
  unfold slices_Contains_string_string.f slices_Index_string_string.f
  exact Ev.bind hi (Ev.now _)
 have j1 : ∀ x : Bool, ∃ c : Int, Ev (fun k => pieces_Check.j1 k x a l b f g) c ∧ (x = true → c = 2) := by
  intro x
  cases x with
  | true => exact ⟨2, Ev.step (fun k => by simp only [pieces_Check.j1]; rfl) (ev_pos (by simp) (Ev.now _)), fun _ => rfl⟩
  | false =>
   have : ∃ c : Int, Ev (fun k => if (f == (a.toList == ([] : List UInt8))) = true then (some 2) else (if (g == (b.toList == ([] : List UInt8))) = true then (some 2) else ((slices_Contains_string_string.f k l (⟨#[]⟩ : ByteArray)).bind fun t104 => (if t104 = true then (some 2) else (some 0))))) c := by
    by_cases q1 : (f == (a.toList == ([] : List UInt8))) = true
    ·exact ⟨2, ev_pos q1 (Ev.now _)⟩
    by_cases q2 : (g == (b.toList == ([] : List UInt8))) = true
    ·exact ⟨2, ev_neg q1 (ev_pos q2 (Ev.now _))⟩
    by_cases q3 : i ≥ 0
    ·exact ⟨2, ev_neg q1 (ev_neg q2 (Ev.bind con (ev_pos (by simp [q3]) (Ev.now _))))⟩
    ·exact ⟨0, ev_neg q1 (ev_neg q2 (Ev.bind con (ev_neg (by simp [q3]) (Ev.now _))))⟩
   obtain ⟨c, hc⟩ := this
   exact ⟨c, Ev.step (fun k => by simp only [pieces_Check.j1]; rfl) (ev_neg (by simp) hc), fun q => by simp at q⟩
 have j0 : ∀ x : Bool, ∃ c : Int, Ev (fun k => pieces_Check.j0 k x a l b f g) c ∧ (x = true → c = 2) := by
  intro x
  cases x with
  | true =>
   obtain ⟨c, h1, h2⟩ := j1 true
   exact ⟨c, Ev.step (fun k => by simp only [pieces_Check.j0]; rfl) (ev_pos (by simp) h1), fun _ => h2 rfl⟩
  | false =>
   obtain ⟨c, h1, h2⟩ := j1 (decide ((l.length : Int) > 6))
   exact ⟨c, Ev.step (fun k => by simp only [pieces_Check.j0]; rfl) (ev_neg (by simp) h1), fun q => by simp at q⟩
 have go : ∀ x : Bool, (f = true → x = false) → (f = false → g = true → x = false) → (f = false → g = false → x = ((l.length : Int) == 0)) → ∃ c : Int, Ev (fun k => pieces_Check.f k a l b f g) c ∧ (c = 0 → f = true ∨ g = true ∨ l.length ≠ 0) := by
  intro x h1 h2 h3
  obtain ⟨c, e1, e2⟩ := j0 x
  refine ⟨c, ?_, fun q => ?_⟩
  ·show Ev (fun k => pieces_Check.f k a l b f g) c
   unfold pieces_Check.f
   cases f with
   | true => rw [h1 rfl] at e1; exact ev_pos (by simp) e1
   | false =>
    cases g with
    | true => rw [h2 rfl rfl] at e1; exact ev_neg (by simp) (ev_pos (by simp) e1)
    | false => rw [h3 rfl rfl] at e1; exact ev_neg (by simp) (ev_neg (by simp) e1)
  ·cases f with
   | true => exact Or.inl rfl
   | false =>
    cases g with
    | true => exact Or.inr (Or.inl rfl)
    | false =>
     refine Or.inr (Or.inr fun q2 => ?_)
     have : x = true := by rw [h3 rfl rfl, q2]; rfl
     rw [e2 this] at q
     exact absurd q (by decide)
 cases f with
 | true => exact go false (fun _ => rfl) (fun q => by simp at q) (fun q => by simp at q)
 | false =>
  cases g with
  | true => exact go false (fun _ => rfl) (fun _ _ => rfl) (fun _ q => by simp at q)
  | false => exact go _ (fun q => by simp at q) (fun _ q => by simp at q) (fun _ _ => rfl)
def lg (s : ByteArray) : Bool := if (s.size : Int) > 150 then (if (s.size : Int) ≤ 1202 then true else decide ((s.size : Int) > 5000)) else decide ((s.size : Int) > 5000)
theorem long_f (s : ByteArray) : toponymlaw13_long.f s = some (lg s) := by
 unfold toponymlaw13_long.f lg
 split
 ·split <;> rfl
 ·rfl
theorem lg_false {s : ByteArray} (h : lg s = false) : s.size ≤ 5000 := by
 unfold lg at h
 split at h
 ·split at h
  ·exact absurd h (by simp)
  ·have := of_decide_eq_false h; omega
 ·have := of_decide_eq_false h; omega
theorem few_loop (a b : ByteArray) (f g : Bool) (sf : List ByteArray) : ∀ (pr : List ByteArray), (pr ++ sf).length ≤ 9 → ∃ c, Ev (fun k => toponymlaw13_Few.l0 k (pr.length : Int) a (pr ++ sf) b f g) c := by
 induction sf with
 | nil =>
  intro pr h
  exact ⟨true, Ev.step (fun k => by simp only [toponymlaw13_Few.l0]; rfl) (ev_neg (by simp) (Ev.now _))⟩
 | cons s l ih =>
  intro pr h
  have hl : (pr ++ s :: l).length = pr.length + l.length + 1 := by simp; omega
  have e1 : pr ++ s :: l = (pr ++ [s]) ++ l := by simp
  have hw : wrap64 ((pr.length : Int) + 1) = ((pr ++ [s]).length : Int) := by rw [w64 (by omega) (by omega)]; simp
  obtain ⟨i, hi⟩ := ih (pr ++ [s]) (by rw [← e1]; exact h)
  rw [← e1] at hi
  cases q : lg s with
  | true =>
   refine ⟨false, Ev.step (fun k => by simp only [toponymlaw13_Few.l0]; rfl) ?_⟩
   refine ev_pos (by omega) (ev_pos (by omega) ?_)
   rw [rdOf_mid]
   exact ev_bind0 (long_f s) (ev_pos (by rw [q]) (Ev.now _))
  | false =>
   refine ⟨i, Ev.step (fun k => by simp only [toponymlaw13_Few.l0]; rfl) ?_⟩
   refine ev_pos (by omega) (ev_pos (by omega) ?_)
   rw [rdOf_mid, hw]
   exact ev_bind0 (long_f s) (ev_neg (by rw [q]; simp) hi)
theorem few_ev (a b : ByteArray) (l : List ByteArray) (f g : Bool) : ∃ c, Ev (fun k => toponymlaw13_Few.f k a l b f g) c ∧ (c = true → l.length ≤ 9 ∧ a.size ≤ 5000 ∧ b.size ≤ 5000) := by
 have no : Ev (fun k => toponymlaw13_Few.j0 k true a l b f g) false := Ev.step (fun k => by simp only [toponymlaw13_Few.j0]; rfl) (ev_pos (by simp) (Ev.now _))
 by_cases h : l.length ≤ 9
 ·obtain ⟨c, hc⟩ := few_loop a b f g l [] h
  have yes : Ev (fun k => toponymlaw13_Few.j0 k false a l b f g) c := Ev.step (fun k => by simp only [toponymlaw13_Few.j0]; rfl) (ev_neg (by simp) hc)
  cases qa : lg a with
  | true =>
   refine ⟨false, ?_, fun q => by simp at q⟩
   show Ev (fun k => toponymlaw13_Few.f k a l b f g) false
   unfold toponymlaw13_Few.f
   exact ev_neg (by omega) (ev_bind0 (long_f a) (ev_pos (by rw [qa]) no))
  | false =>
   cases qb : lg b with
   | true =>
    refine ⟨false, ?_, fun q => by simp at q⟩
    show Ev (fun k => toponymlaw13_Few.f k a l b f g) false
    unfold toponymlaw13_Few.f
    exact ev_neg (by omega) (ev_bind0 (long_f a) (ev_neg (by rw [qa]; simp) (ev_bind0 (long_f b) (by rw [qb]; exact no))))
   | false =>
    refine ⟨c, ?_, fun _ => ⟨h, lg_false qa, lg_false qb⟩⟩
    show Ev (fun k => toponymlaw13_Few.f k a l b f g) c
    unfold toponymlaw13_Few.f
    exact ev_neg (by omega) (ev_bind0 (long_f a) (ev_neg (by rw [qa]; simp) (ev_bind0 (long_f b) (by rw [qb]; exact yes))))
 ·refine ⟨false, ?_, fun q => by simp at q⟩
  show Ev (fun k => toponymlaw13_Few.f k a l b f g) false
  unfold toponymlaw13_Few.f
  exact ev_pos (by omega) no
theorem PiecesMore (v a : ByteArray) (l : List ByteArray) (b : ByteArray) (f g : Bool) (i : Int) : ∃ k, toponymlaw13_PiecesMore.f k v a l b f g i = some true := by
 refine Ev.rounds ?_
 have fin : Ev (fun k => (toponymlaw13_awake.f k).bind fun t => some t) true := Ev.bind awake13_ev (Ev.now _)
 have no : Ev (fun k => toponymlaw13_PiecesMore.j0 k v i true a l b f g) true := Ev.step (fun k => by simp only [toponymlaw13_PiecesMore.j0]; rfl) (ev_pos (by simp) fin)
 show Ev (fun k => toponymlaw13_PiecesMore.f k v a l b f g i) true
 unfold toponymlaw13_PiecesMore.f
 refine ev_ite (fun _ => no) (fun hv => ?_)
 have hv' : v.size ≤ 5000 := by omega
 obtain ⟨c, e1, e2⟩ := few_ev a b l f g
 refine Ev.bind e1 (ev_ite (fun hc => ?_) (fun _ => no))
 obtain ⟨hl, ha, hb⟩ := e2 hc
 refine ev_ite (fun _ => no) (fun h0 => ev_ite (fun _ => no) (fun h1 => ?_))
 refine Ev.bind (match_ev v a b l f g (by omega) (by omega) (by omega) (fun _ => by omega)) ?_
 cases hm : (flagsOk a l.length b f g && matchS (bl v) (bl a) (l.map bl) (bl b)) with
 | false => exact no
 | true =>
  obtain ⟨m1, m2⟩ := (Bool.and_eq_true _ _ ▸ hm : _ ∧ _)
  have hw : wrap64 (i + 1) = i + 1 := w64 (by omega) (by omega)
  have hn : (i + 1).toNat = i.toNat + 1 := by omega
  have ht : (l.take i.toNat).length = i.toNat := by rw [List.length_take]; omega
  have hd : (l.drop (i.toNat + 1)).length = l.length - (i.toNat + 1) := List.length_drop
  refine Ev.step (fun k => by simp only [toponymlaw13_PiecesMore.j0]; rfl) (ev_neg (by simp) ?_)
  refine ev_bind0 rfl (ev_pos (by omega) (ev_pos (by omega) (ev_pos (by rw [ht]; simp; omega) ?_)))
  refine ev_bind0 rfl ?_
  rw [hw, hn, List.nil_append]
  refine ev_pos (by omega) (ev_pos (by omega) (ev_pos (by rw [ht, hd]; omega) ?_))
  refine ev_bind0 rfl ?_
  have hq : (l.take i.toNat ++ l.drop (i.toNat + 1)).length = l.length - 1 := by rw [List.length_append, ht, hd]; omega
  obtain ⟨c2, e3, e4⟩ := check_ev a b (l.take i.toNat ++ l.drop (i.toNat + 1)) f g (by omega)
  refine Ev.bind e3 (ev_ite (fun hc2 => ?_) (fun _ => fin))
  refine Ev.bind (match_ev v a b _ f g (by omega) (by omega) (by omega) (fun _ => by omega)) (ev_pos ?_ fin)
  have h5 := e4 hc2
  rw [Bool.and_eq_true]
  constructor
  ·unfold flagsOk at m1 ⊢
   simp only [Bool.and_eq_true, Bool.or_eq_true, decide_eq_true_eq] at m1 ⊢
   rw [hq] at h5 ⊢
   refine ⟨⟨?_, m1.1.2⟩, by omega⟩
   rcases h5 with h5 | h5 | h5
   ·exact Or.inl h5
   ·rcases m1.1.1 with m | m
    ·exact Or.inl m
    ·exact Or.inr ⟨Or.inl h5, m.2⟩
   ·rcases m1.1.1 with m | m
    ·exact Or.inl m
    ·exact Or.inr ⟨Or.inr h5, m.2⟩
  ·unfold matchS at m2 ⊢
   simp only [Bool.and_eq_true] at m2 ⊢
   refine ⟨m2.1, m2.2.1, ?_⟩
   rw [List.map_append, List.map_take, List.map_drop]
   exact fcut_less _ _ _ m2.2.2
end Go.Proofs.Ytncppcjobimilaa.Pure
