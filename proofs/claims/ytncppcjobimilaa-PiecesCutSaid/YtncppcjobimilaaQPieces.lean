import Derived.Test.YtncppcjobimilaaQBase
import Derived.Lib.Strings
import Derived.Test.YtncppcjobimilaaT1
import Derived.Test.YtncppcjobimilaaT2
/- Texts as lists of bytes; what pieces.Match tells. -/
namespace Go.Proofs.Ytncppcjobimilaa.Pure
open Go.RowKit Go.Proofs.Ytncppcjobimilaa.P Go.Proofs.YtncppcjobimilaaW.PrintWords Go.Proofs.YtncppcjobimilaaW.PrintLast
set_option linter.unusedVariables false
def bl (s : ByteArray) : List UInt8 := s.data.toList
theorem bl_len (s : ByteArray) : (bl s).length = s.size := rfl
theorem bl_extract (s : ByteArray) (i j : Nat) : bl (s.extract i j) = ((bl s).drop i).take (j - i) := by
 unfold bl
 rw [ByteArray.data_extract, Array.toList_extract, List.extract_eq_take_drop]
theorem bl_inj {a b : ByteArray} (h : bl a = bl b) : a = b := by
 cases a; cases b
 simp only [bl] at h
 congr 1
 exact Array.toList_inj.mp h
theorem toList_bl (a b : ByteArray) : a.toList = b.toList ↔ bl a = bl b := by
 constructor
 ·intro h
  have : ∀ s : ByteArray, s.toList = bl s := fun s => by
   unfold bl
   exact Lib.toList_data s
  rw [← this, ← this]
  exact h
 ·intro h
  rw [bl_inj h]
theorem bl_app (a b : ByteArray) : bl (a ++ b) = bl a ++ bl b := by
 unfold bl
 rw [ByteArray.data_append, Array.toList_append]
def pre (s t : List UInt8) : Bool := decide (t.length ≤ s.length ∧ s.take t.length = t)
def suf (s t : List UInt8) : Bool := decide (t.length ≤ s.length ∧ s.drop (s.length - t.length) = t)
theorem ext_take (s t : ByteArray) (h : t.size ≤ s.size) : (s.extract 0 t.size).toList = t.toList ↔ (bl s).take (bl t).length = bl t := by
 rw [toList_bl, bl_extract, bl_len]; simp
theorem ext_drop (s t : ByteArray) (n : Nat) (h : n ≤ s.size) : (s.extract n s.size).toList = t.toList ↔ (bl s).drop n = bl t := by
 rw [toList_bl, bl_extract, List.take_of_length_le (by rw [List.length_drop, bl_len]; exact Nat.le_refl _)]
theorem cutPre (s t : ByteArray) : strings_CutPrefix.f s t = some (if pre (bl s) (bl t) = true then (s.extract t.size s.size, true) else (s, false)) := by
 unfold strings_CutPrefix.f stringslite_CutPrefix.f stringslite_HasPrefix.f
 by_cases h : t.size ≤ s.size
 ·have h1 : (s.size : Int) ≥ (t.size : Int) := by omega
  rw [if_pos h1, if_pos (by omega), if_pos (by omega)]
  simp only [Option.bind_some, Int.toNat_natCast]
  by_cases h2 : (bl s).take (bl t).length = bl t
  ·have e : ((s.extract 0 t.size).toList == t.toList) = true := by rw [beq_iff_eq, ext_take s t h]; exact h2
   have p : pre (bl s) (bl t) = true := decide_eq_true ⟨h, h2⟩
   rw [e, p]; simp only [↓reduceIte]
   rw [if_pos (by omega), if_pos (by omega)]; rfl
  ·have e : ((s.extract 0 t.size).toList == t.toList) = false := by rw [beq_eq_false_iff_ne]; intro g; exact h2 ((ext_take s t h).mp g)
   have p : pre (bl s) (bl t) = false := decide_eq_false (fun g => h2 g.2)
   rw [e, p]; rfl
 ·rw [if_neg (by omega)]
  have p : pre (bl s) (bl t) = false := decide_eq_false (fun g => h g.1)
  rw [p]; rfl
theorem cutSuf (s t : ByteArray) (hs : s.size ≤ 4611686018427387904) (ht : t.size ≤ 4611686018427387904) : strings_CutSuffix.f s t = some (if suf (bl s) (bl t) = true then (s.extract 0 (s.size - t.size), true) else (s, false)) := by
 unfold strings_CutSuffix.f stringslite_CutSuffix.f stringslite_HasSuffix.f
 have w : wrap64 ((s.size : Int) - (t.size : Int)) = (s.size : Int) - (t.size : Int) := w64 (by omega) (by omega)
 rw [w]
 by_cases h : t.size ≤ s.size
 ·have w2 : ((s.size : Int) - (t.size : Int)).toNat = s.size - t.size := by omega
  have h1 : (s.size : Int) ≥ (t.size : Int) := by omega
  rw [if_pos h1, if_pos (by omega), if_pos (by omega), w2]
  simp only [Option.bind_some]
  have he := ext_drop s t (s.size - t.size) (by omega)
  by_cases h2 : (bl s).drop ((bl s).length - (bl t).length) = bl t
  ·have e : ((s.extract (s.size - t.size) s.size).toList == t.toList) = true := by rw [beq_iff_eq, he]; exact h2
   have p : suf (bl s) (bl t) = true := decide_eq_true ⟨h, h2⟩
   rw [e, p]; simp only [↓reduceIte]
   rw [if_pos (by omega), if_pos (by omega)]; rfl
  ·have e : ((s.extract (s.size - t.size) s.size).toList == t.toList) = false := by rw [beq_eq_false_iff_ne]; intro g; exact h2 (he.mp g)
   have p : suf (bl s) (bl t) = false := decide_eq_false (fun g => h2 g.2)
   rw [e, p]; rfl
 ·rw [if_neg (by omega)]
  have p : suf (bl s) (bl t) = false := decide_eq_false (fun g => h g.1)
  rw [p]; rfl
def fcut : Bool → List UInt8 → List (List UInt8) → Bool
 | ok, _, [] => ok
 | ok, r, s :: l => fcut (ok && (Lib.cut r s).2.2) (Lib.cut r s).2.1 l
theorem fcut_false (l : List (List UInt8)) : ∀ r, fcut false r l = false := by
 induction l with
 | nil => intro r; rfl
 | cons s l ih => intro r; unfold fcut; rw [Bool.false_and]; exact ih _
theorem fcut_cons (ok : Bool) (r s : List UInt8) (l : List (List UInt8)) : fcut ok r (s :: l) = fcut (ok && (Lib.cut r s).2.2) (Lib.cut r s).2.1 l := rfl
def mid (v a b : List UInt8) : List UInt8 := (v.drop a.length).take ((v.drop a.length).length - b.length)
def matchS (v a : List UInt8) (any : List (List UInt8)) (b : List UInt8) : Bool := pre v a && (suf (v.drop a.length) b && fcut true (mid v a b) any)
def flagsOk (a : ByteArray) (n : Nat) (b : ByteArray) (f g : Bool) : Bool :=
 (f || ((g || decide (n ≠ 0)) && decide (bl a = []))) && (g || decide (bl b = [])) && decide (n ≤ 6)
theorem cut_len (s t : List UInt8) : (Lib.cut s t).2.1.length ≤ s.length := by
 unfold Lib.cut
 split
 ·simp
 ·simp
theorem rdOf_mid (pr : List ByteArray) (s : ByteArray) (l : List ByteArray) : rdOf ByteArray.empty (pr ++ s :: l) (pr.length : Int) = s := by
 unfold rdOf
 rw [Int.toNat_natCast, List.getD_eq_getElem?_getD, List.getElem?_append_right (Nat.le_refl _)]
 simp
theorem matchL (l : List ByteArray) : ∀ (pr : List ByteArray) (r : ByteArray) (ok : Bool), (pr ++ l).length ≤ 6 → (l ≠ [] → r.size < 4294967281) →
  Ev (fun k => pieces_Match.l0 k r ok (pr ++ l) ((pr ++ l).length : Int) (pr.length : Int)) (fcut ok (bl r) (l.map bl)) := by
 induction l with
 | nil =>
  intro pr r ok h1 h2
  refine Ev.step (fun k => by simp only [pieces_Match.l0]; rfl) ?_
  exact ev_neg (by simp) (Ev.now _)
 | cons s l ih =>
  intro pr r ok h1 h2
  have hl : (pr ++ s :: l).length = pr.length + l.length + 1 := by simp; omega
  have hr : r.size < 4294967281 := h2 (by simp)
  refine Ev.step (fun k => by simp only [pieces_Match.l0]; rfl) ?_
  refine ev_pos (by omega) (ev_pos (by omega) (ev_pos (by omega) ?_))
  rw [rdOf_mid]
  have hc : strings_Cut.f r s = some (⟨(Lib.cut (bl r) (bl s)).1.toArray⟩, ⟨(Lib.cut (bl r) (bl s)).2.1.toArray⟩, (Lib.cut (bl r) (bl s)).2.2) := by
   unfold strings_Cut.f; rw [if_pos hr]; rfl
  refine ev_bind0 hc ?_
  have hw : wrap64 ((pr.length : Int) + 1) = ((pr ++ [s]).length : Int) := by rw [w64 (by omega) (by omega)]; simp
  have hz : (⟨(Lib.cut (bl r) (bl s)).2.1.toArray⟩ : ByteArray).size < 4294967281 := by
   have := cut_len (bl r) (bl s)
   rw [bl_len] at this
   show (Lib.cut (bl r) (bl s)).2.1.toArray.size < _
   simp; omega
  have hb : bl (⟨(Lib.cut (bl r) (bl s)).2.1.toArray⟩ : ByteArray) = (Lib.cut (bl r) (bl s)).2.1 := by simp [bl]
  have e1 : pr ++ s :: l = (pr ++ [s]) ++ l := by simp
  have go := fun b => ih (pr ++ [s]) ⟨(Lib.cut (bl r) (bl s)).2.1.toArray⟩ b (by rw [← e1]; exact h1) (fun _ => hz)
  rw [← e1, hb] at go
  rw [hw, List.map_cons, fcut_cons]
  cases ok with
  | true => exact ev_pos rfl (by rw [Bool.true_and]; exact go _)
  | false => exact ev_neg (by simp) (by rw [Bool.false_and]; exact go _)
theorem matchJ (v a b : ByteArray) (l : List ByteArray) (f g : Bool) (hv : v.size ≤ 4611686018427387904) (ha : a.size ≤ 4611686018427387904) (hb : b.size ≤ 4611686018427387904) (h1 : l.length ≤ 6) (h2 : l ≠ [] → v.size < 4294967281) :
  Ev (fun k => pieces_Match.j0 k v false a l b f g) (matchS (bl v) (bl a) (l.map bl) (bl b)) := by
 refine Ev.step (fun k => by simp only [pieces_Match.j0]; rfl) ?_
 refine ev_neg (by simp) ?_
 refine ev_bind0 (cutPre v a) ?_
 unfold matchS
 by_cases hp : pre (bl v) (bl a) = true
 ·rw [hp]
  simp only [↓reduceIte]
  have hle : a.size ≤ v.size := by
   have := of_decide_eq_true hp
   exact this.1
  have hd : bl (v.extract a.size v.size) = (bl v).drop (bl a).length := by
   rw [bl_extract, List.take_of_length_le (by rw [List.length_drop, bl_len]; exact Nat.le_refl _), bl_len]
  have hds : (v.extract a.size v.size).size = v.size - a.size := by
   rw [← bl_len, hd, List.length_drop, bl_len, bl_len]
  refine ev_bind0 (cutSuf _ b (by omega) hb) ?_
  rw [hd, Bool.true_and]
  by_cases hs : suf ((bl v).drop (bl a).length) (bl b) = true
  ·rw [hs]
   simp only [↓reduceIte, Bool.true_and]
   have hm : bl ((v.extract a.size v.size).extract 0 ((v.extract a.size v.size).size - b.size)) = mid (bl v) (bl a) (bl b) := by
    rw [bl_extract, hd, hds]
    unfold mid
    rw [List.drop_zero, List.length_drop, bl_len, bl_len, bl_len, Nat.sub_zero]
   have := matchL l [] ((v.extract a.size v.size).extract 0 ((v.extract a.size v.size).size - b.size)) true h1 (fun hn => by
    have h3 := h2 hn
    rw [← bl_len, hm]
    unfold mid
    rw [List.length_take, List.length_drop, bl_len]
    omega)
   rw [hm] at this
   exact this
  ·have hs' : suf ((bl v).drop (bl a).length) (bl b) = false := by simpa using hs
   rw [hs']
   simp only [Bool.false_eq_true, ↓reduceIte, Bool.false_and]
   have := matchL l [] (v.extract a.size v.size) false h1 (fun hn => by have h3 := h2 hn; omega)
   rw [fcut_false] at this
   exact this
 ·have hp' : pre (bl v) (bl a) = false := by simpa using hp
  rw [hp', Bool.false_and]
  exact ev_neg (by simp) (Ev.now _)
theorem matchN (v a b : ByteArray) (l : List ByteArray) (f g : Bool) : Ev (fun k => pieces_Match.j0 k v true a l b f g) false := by
 refine Ev.step (fun k => by simp only [pieces_Match.j0]; rfl) ?_
 exact ev_pos (by simp) (Ev.now _)
theorem match_ev (v a b : ByteArray) (l : List ByteArray) (f g : Bool) (hv : v.size ≤ 4611686018427387904) (ha : a.size ≤ 4611686018427387904) (hb : b.size ≤ 4611686018427387904) (h2 : l ≠ [] → v.size < 4294967281) :
  Ev (fun k => pieces_Match.f k v a l b f g) (flagsOk a l.length b f g && matchS (bl v) (bl a) (l.map bl) (bl b)) := by
 have ea : a.toList = ([] : List UInt8) ↔ bl a = [] := by rw [Lib.toList_data]; rfl
 have eb : b.toList = ([] : List UInt8) ↔ bl b = [] := by rw [Lib.toList_data]; rfl
 have key : ∀ c : Bool, c = decide (l.length ≤ 6) → Ev (fun k => pieces_Match.j0 k v (decide ((l.length : Int) > 6)) a l b f g) (c && matchS (bl v) (bl a) (l.map bl) (bl b)) := by
  intro c hc
  by_cases h : l.length ≤ 6
  ·have : decide ((l.length : Int) > 6) = false := decide_eq_false (by omega)
   rw [this, hc, decide_eq_true h, Bool.true_and]
   exact matchJ v a b l f g hv ha hb h h2
  ·have : decide ((l.length : Int) > 6) = true := decide_eq_true (by omega)
   rw [this, hc, decide_eq_false h, Bool.false_and]
   exact matchN v a b l f g
 have no : ∀ c : Bool, c = false → Ev (fun k => pieces_Match.j0 k v true a l b f g) (c && matchS (bl v) (bl a) (l.map bl) (bl b)) := by
  intro c hc
  rw [hc, Bool.false_and]
  exact matchN v a b l f g
 show Ev (fun k => pieces_Match.f k v a l b f g) _
 unfold pieces_Match.f flagsOk
 cases f with
 | true =>
  refine ev_pos (by simp) ?_
  cases g with
  | true => exact ev_pos (by simp) (key _ (by simp))
  | false =>
   refine ev_neg (by simp) (ev_ite (fun h => key _ (by simp [eb.mp h])) (fun h => by have hn : ¬ bl b = [] := fun q => h (eb.mpr q); exact no _ (by simp [hn])))
 | false =>
  refine ev_neg (by simp) ?_
  cases g with
  | true =>
   exact ev_pos (by simp) (ev_ite (fun h => key _ (by simp [ea.mp h])) (fun h => by have hn : ¬ bl a = [] := fun q => h (ea.mpr q); exact no _ (by simp [hn])))
  | false =>
   refine ev_neg (by simp) (ev_ite (fun h => by have hn : l.length = 0 := (by omega); exact no _ (by simp [hn])) (fun h0 => ev_ite (fun h => ?_) (fun h => by have hn : ¬ bl a = [] := fun q => h (ea.mpr q); exact no _ (by simp [hn]))))
   have h0' : l.length ≠ 0 := by omega
   exact ev_ite (fun h3 => key _ (by simp [ea.mp h, eb.mp h3, h0'])) (fun h3 => by have hn : ¬ bl b = [] := fun q => h3 (eb.mpr q); exact no _ (by simp [hn]))
end Go.Proofs.Ytncppcjobimilaa.Pure
