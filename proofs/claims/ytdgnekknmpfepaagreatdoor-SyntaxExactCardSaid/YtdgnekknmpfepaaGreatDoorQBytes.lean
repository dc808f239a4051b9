import Derived.Test.YtdgnekknmpfepaaGreatDoorQBase
import Derived.Lib.Strings
/- A text as a list of numbers from 0 to 255. -/
namespace Go.Proofs.YtdgnekknmpfepaaGreatDoor.Pure
open Go.RowKit Go.Proofs.YtdgnekknmpfepaaGreatDoorW.PrintWords Go.Proofs.YtdgnekknmpfepaaGreatDoorW.PrintLast
set_option linter.unusedVariables false
def ints (s : ByteArray) : List Int := s.data.toList.map fun b => (b.toNat : Int)
theorem ints_length (s : ByteArray) : (ints s).length = s.size := by simp [ints]
theorem ints_range (s : ByteArray) : ∀ x ∈ ints s, 0 ≤ x ∧ x ≤ 255 := by
 intro x hx
 obtain ⟨b, _, rfl⟩ := List.mem_map.1 hx
 have := b.toNat_lt
 omega
theorem ints_get (s : ByteArray) (i : Nat) (h : i < s.size) : (ints s)[i]? = some ((s[i]'h).toNat : Int) := by
 unfold ints
 rw [List.getElem?_map, List.getElem?_eq_getElem (by simpa using h)]
 rfl
theorem bt_ints (s : ByteArray) (i : Int) : bt s i = (ints s).getD i.toNat 0 := by
 unfold bt
 rw [List.getD_eq_getElem?_getD]
 split
 ·rename_i h
  rw [ints_get s _ h]
  rfl
 ·rename_i h
  rw [List.getElem?_eq_none (by rw [ints_length]; omega)]
  rfl
theorem bt_mid {s : ByteArray} {pre suf : List Int} {c : Int} (h : ints s = pre ++ c :: suf) : bt s (pre.length : Int) = c := by
 rw [bt_ints, h]
 simp [List.getD_eq_getElem?_getD]
theorem bt_at1 {s : ByteArray} {pre suf : List Int} {c d : Int} (h : ints s = pre ++ c :: d :: suf) : bt s ((pre.length : Int) + 1) = d := by
 have := bt_mid (s := s) (pre := pre ++ [c]) (suf := suf) (c := d) (by simpa using h)
 rwa [len_snoc] at this
theorem bt_at2 {s : ByteArray} {pre suf : List Int} {c d e : Int} (h : ints s = pre ++ c :: d :: e :: suf) : bt s ((pre.length : Int) + 2) = e := by
 have := bt_at1 (s := s) (pre := pre ++ [c]) (suf := suf) (c := d) (d := e) (by simpa using h)
 rw [len_snoc] at this
 rw [← this]
 congr 1
theorem bt_at3 {s : ByteArray} {pre suf : List Int} {c d e f : Int} (h : ints s = pre ++ c :: d :: e :: f :: suf) : bt s ((pre.length : Int) + 3) = f := by
 have := bt_at2 (s := s) (pre := pre ++ [c]) (suf := suf) (c := d) (d := e) (e := f) (by simpa using h)
 rw [len_snoc] at this
 rw [← this]
 congr 1
theorem ints_append (a b : ByteArray) : ints (a ++ b) = ints a ++ ints b := by
 have : (a ++ b).data = a.data ++ b.data := by simp
 simp [ints]
theorem ints_extract (s : ByteArray) (i j : Nat) : ints (s.extract i j) = ((ints s).drop i).take (j - i) := by
 have h : (s.extract i j).toList = (s.data.toList.drop i).take (j - i) := Lib.extract_toList s i j
 rw [Lib.toList_data] at h
 unfold ints
 rw [h, List.map_take, List.map_drop]
theorem ints_nil : ints (⟨#[]⟩ : ByteArray) = [] := rfl
theorem ints_strOfNums {l : List Int} (h : ∀ x ∈ l, 0 ≤ x ∧ x ≤ 255) : ints (strOfNums l) = l := by
 unfold ints strOfNums
 rw [List.toList_toArray, List.map_map]
 conv => rhs; rw [← List.map_id l]
 refine List.map_congr_left fun x hx => ?_
 have := h x hx
 simp only [Function.comp_apply, id, UInt8.toNat_ofNat']
 omega
theorem ints_inj {a b : ByteArray} (h : ints a = ints b) : a = b := by
 apply ByteArray.ext
 apply Array.toList_inj.mp
 unfold ints at h
 have hi : ∀ (l m : List UInt8), l.map (fun b => (b.toNat : Int)) = m.map (fun b => (b.toNat : Int)) → l = m := by
  intro l
  induction l with
  | nil => intro m h; cases m with
   | nil => rfl
   | cons y m => simp at h
  | cons x l ih =>
   intro m h
   cases m with
   | nil => simp at h
   | cons y m =>
    simp only [List.map_cons, List.cons.injEq] at h
    have h1 : x = y := UInt8.toNat_inj.mp (by omega)
    rw [h1, ih m h.2]
 exact hi _ _ h
theorem toList_iff (a b : ByteArray) : a.toList = b.toList ↔ ints a = ints b := by
 constructor
 ·intro h
  rw [Lib.toList_data, Lib.toList_data] at h
  unfold ints
  rw [h]
 ·intro h
  rw [ints_inj h]
end Go.Proofs.YtdgnekknmpfepaaGreatDoor.Pure
