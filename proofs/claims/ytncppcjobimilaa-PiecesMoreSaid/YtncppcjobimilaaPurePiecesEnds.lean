import Derived.Test.YtncppcjobimilaaQPieces
import Derived.Test.YtncppcjobimilaaP2
import Derived.Test.YtncppcjobimilaaP14
/- PiecesEnds: what is asked to begin, and to end, is found just in a text that does both, and is long enough for both; no condition. -/
namespace Go.Proofs.Ytncppcjobimilaa.Pure
open Go.RowKit Go.Proofs.Ytncppcjobimilaa.P Go.Proofs.YtncppcjobimilaaW.PrintWords Go.Proofs.YtncppcjobimilaaW.PrintLast
set_option linter.unusedVariables false
theorem awake13_ev : Ev (fun k => toponymlaw13_awake.f k) true := by
 refine Ev.of toponymlaw13_awake.mono (k := 100) ?_
 decide +kernel
theorem match2_ev (v a b : ByteArray) (hv : v.size ≤ 4611686018427387904) (ha : a.size ≤ 4611686018427387904) (hb : b.size ≤ 4611686018427387904) :
  Ev (fun k => pieces_Match.f k v a ([] : List ByteArray) b true true) (pre (bl v) (bl a) && suf ((bl v).drop (bl a).length) (bl b)) := by
 refine ev_eq (match_ev v a b [] true true hv ha hb (fun h => absurd rfl h)) ?_
 simp [flagsOk, matchS, fcut]
theorem drop_both (v a b : ByteArray) (h1 : a.size ≤ v.size) (h2 : b.size ≤ v.size - a.size) : suf ((bl v).drop (bl a).length) (bl b) = decide ((bl v).drop (v.size - b.size) = bl b) := by
 unfold suf
 rw [List.length_drop, bl_len, bl_len, bl_len, List.drop_drop]
 have e : a.size + (v.size - a.size - b.size) = v.size - b.size := by omega
 rw [e]
 simp [h2]
theorem PiecesEnds : toponymlaw13_PiecesEnds.Pure := by
 intro v a b hv ha hb
 refine Ev.rounds ?_
 have fin : Ev (fun k => (toponymlaw13_awake.f k).bind fun t => some t) true := Ev.bind awake13_ev (Ev.now _)
 have leaf : ∀ X : Bool, X = (pre (bl v) (bl a) && suf ((bl v).drop (bl a).length) (bl b)) → Ev (fun k => (pieces_Match.f k v a ([] : List ByteArray) b true true).bind fun t561 => (if (t561 == X) = true then (if a.size + b.size ≤ 9223372036854775807 then ((pieces_Match.f k (a ++ b) a ([] : List ByteArray) b true true).bind fun t562 => (if t562 = true then ((toponymlaw13_awake.f k).bind fun t563 => (some t563)) else (some false))) else (none)) else (some false))) true := by
  intro X hX
  refine Ev.bind (match2_ev v a b (by omega) (by omega) (by omega)) (ev_pos (by rw [hX]; simp) (ev_pos (by omega) ?_))
  have hs : (a ++ b).size = a.size + b.size := ByteArray.size_append
  refine Ev.bind (match2_ev (a ++ b) a b (by omega) (by omega) (by omega)) (ev_pos ?_ fin)
  rw [bl_app]
  unfold pre suf
  simp
 have go : ∀ c : Bool, v.size ≤ 5000 ∨ c = true → Ev (fun k => toponymlaw13_PiecesEnds.j0 k v a b c) true := by
  intro c hc
  refine Ev.step (fun k => by simp only [toponymlaw13_PiecesEnds.j0]; rfl) ?_
  refine ev_ite (fun _ => fin) (fun h0 => ?_)
  have h5 : v.size ≤ 5000 := hc.resolve_right h0
  have w1 : wrap64 ((v.size : Int) - (a.size : Int)) = (v.size : Int) - (a.size : Int) := w64 (by omega) (by omega)
  have w2 : wrap64 ((v.size : Int) - (b.size : Int)) = (v.size : Int) - (b.size : Int) := w64 (by omega) (by omega)
  rw [w1, w2]
  refine ev_ite (fun h1 => ?_) (fun h1 => ?_)
  ·refine ev_ite (fun h2 => ?_) (fun h2 => ?_)
   ·have hle : a.size ≤ v.size := by omega
    have hle2 : b.size ≤ v.size - a.size := by omega
    refine ev_pos (by omega) (ev_ite (fun h3 => ?_) (fun h3 => ?_))
    ·have h3' := (ext_take v a hle).mp (by rw [Int.toNat_natCast] at h3; exact h3)
     have p : pre (bl v) (bl a) = true := decide_eq_true ⟨hle, h3'⟩
     refine ev_pos (by omega) (ev_pos (by omega) (leaf _ ?_))
     rw [p, Bool.true_and, drop_both v a b hle hle2]
     have w3 : ((v.size : Int) - (b.size : Int)).toNat = v.size - b.size := by omega
     rw [w3]
     by_cases h4 : (bl v).drop (v.size - b.size) = bl b
     ·rw [decide_eq_true h4, beq_iff_eq]
      exact (ext_drop v b _ (by omega)).mpr h4
     ·rw [decide_eq_false h4, beq_eq_false_iff_ne]
      intro q; exact h4 ((ext_drop v b _ (by omega)).mp q)
    ·have p : pre (bl v) (bl a) = false := decide_eq_false (fun q => h3 (by rw [Int.toNat_natCast]; exact (ext_take v a hle).mpr q.2))
     exact leaf _ (by rw [p]; rfl)
   ·have s : suf ((bl v).drop (bl a).length) (bl b) = false := decide_eq_false (fun q => by have := q.1; rw [List.length_drop, bl_len, bl_len, bl_len] at this; omega)
    exact leaf _ (by rw [s, Bool.and_false])
  ·have p : pre (bl v) (bl a) = false := decide_eq_false (fun q => by have := q.1; rw [bl_len, bl_len] at this; omega)
   exact leaf _ (by rw [p]; rfl)
 have all : Ev (fun k => toponymlaw13_PiecesEnds.f k v a b) true := by
  show Ev (fun k => toponymlaw13_PiecesEnds.f k v a b) true
  unfold toponymlaw13_PiecesEnds.f
  refine ev_ite (fun _ => go true (Or.inr rfl)) (fun h => ?_)
  have h5 : v.size ≤ 5000 := by omega
  exact ev_ite (fun _ => go true (Or.inr rfl)) (fun _ => go _ (Or.inl h5))
 exact all
end Go.Proofs.Ytncppcjobimilaa.Pure
