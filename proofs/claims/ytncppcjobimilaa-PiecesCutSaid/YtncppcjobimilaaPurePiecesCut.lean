import Derived.Test.YtncppcjobimilaaQCut
import Derived.Test.YtncppcjobimilaaT1
import Derived.Test.YtncppcjobimilaaT2
import Derived.Test.YtncppcjobimilaaT14
import Derived.Test.YtncppcjobimilaaT15
/- PiecesCut: whatever a text is cut into, what is asked of some of the cuts, in their order, is found in it; no condition. -/
namespace Go.Proofs.Ytncppcjobimilaa.Pure
open Go.RowKit Go.Proofs.Ytncppcjobimilaa.P Go.Proofs.YtncppcjobimilaaW.PrintWords Go.Proofs.YtncppcjobimilaaW.PrintLast
set_option linter.unusedVariables false
set_option linter.unusedSimpArgs false
theorem index_front (s r : List UInt8) : Lib.index (s ++ r) s = 0 := by
 cases h : s ++ r with
 | nil =>
  have : s = [] := (List.append_eq_nil_iff.mp h).1
  subst this
  rfl
 | cons b l =>
  unfold Lib.index
  rw [if_pos]
  rw [List.isPrefixOf_iff_prefix, ← h]
  exact List.prefix_append _ _
theorem cut_front (s r : List UInt8) : Lib.cut (s ++ r) s = ([], r, true) := by
 unfold Lib.cut
 rw [index_front]
 simp
theorem fcut_at (x s r : List UInt8) (l : List (List UInt8)) (h : fcut true r l = true) : fcut true (x ++ (s ++ r)) (s :: l) = true := by
 refine fcut_more _ x _ ?_
 rw [fcut_cons, cut_front]
 exact h
theorem match_of (a X b : List UInt8) (l : List (List UInt8)) (h : fcut true X l = true) : matchS (a ++ (X ++ b)) a l b = true := by
 have e1 : (a ++ (X ++ b)).drop a.length = X ++ b := by simp
 have e2 : pre (a ++ (X ++ b)) a = true := decide_eq_true ⟨by simp, by simp⟩
 have e3 : suf (X ++ b) b = true := decide_eq_true ⟨by simp, by simp⟩
 have e4 : mid (a ++ (X ++ b)) a b = X := by unfold mid; rw [e1]; simp
 unfold matchS
 rw [e1, e2, e3, e4, h]
 rfl
theorem cuts_match (A s1 m s2 B : List UInt8) {a b : List UInt8} (ha : a = [] ∨ a = A) (hb : b = [] ∨ b = B) {l : List (List UInt8)} (hl : l = [] ∨ l = [s1] ∨ l = [s2] ∨ l = [s1, s2]) :
  matchS (A ++ (s1 ++ (m ++ (s2 ++ B)))) a l b = true := by
 obtain ⟨a', ea⟩ : ∃ a', A = a ++ a' := by
  rcases ha with rfl | rfl
  ·exact ⟨A, rfl⟩
  ·exact ⟨[], by simp⟩
 obtain ⟨b', eb⟩ : ∃ b', B = b' ++ b := by
  rcases hb with rfl | rfl
  ·exact ⟨B, by simp⟩
  ·exact ⟨[], rfl⟩
 have e : A ++ (s1 ++ (m ++ (s2 ++ B))) = a ++ ((a' ++ (s1 ++ (m ++ (s2 ++ b')))) ++ b) := by
  rw [ea, eb]; simp
 rw [e]
 refine match_of _ _ _ _ ?_
 rcases hl with rfl | rfl | rfl | rfl
 ·rfl
 ·exact fcut_at _ _ _ _ rfl
 ·have e2 : a' ++ (s1 ++ (m ++ (s2 ++ b'))) = (a' ++ (s1 ++ m)) ++ (s2 ++ b') := by simp
  rw [e2]
  exact fcut_at _ _ _ _ rfl
 ·exact fcut_at _ _ _ _ (fcut_at _ _ _ _ rfl)
theorem ordF_ok {n a b c d : Int} (ha : 0 ≤ a ∧ a ≤ n) (hb : 0 ≤ b ∧ b ≤ n) (hc : 0 ≤ c ∧ c ≤ n) (hd : 0 ≤ d ∧ d ≤ n) :
  0 ≤ (ordF a b c d).1 ∧ (ordF a b c d).1 ≤ (ordF a b c d).2.1 ∧ (ordF a b c d).2.1 ≤ (ordF a b c d).2.2.1 ∧ (ordF a b c d).2.2.1 ≤ (ordF a b c d).2.2.2 ∧ (ordF a b c d).2.2.2 ≤ n := by
 obtain ⟨p, q, e2, h2⟩ : ∃ p q, ord2 a b = (p, q) ∧ 0 ≤ p ∧ p ≤ q ∧ q ≤ n := by
  unfold ord2
  split
  ·exact ⟨_, _, rfl, by omega, by omega, by omega⟩
  ·exact ⟨_, _, rfl, by omega, by omega, by omega⟩
 obtain ⟨u, v, x, e3, h3⟩ : ∃ u v x, ord3 p q c = (u, v, x) ∧ 0 ≤ u ∧ u ≤ v ∧ v ≤ x ∧ x ≤ n := by
  unfold ord3
  split
  ·split
   ·exact ⟨_, _, _, rfl, by omega, by omega, by omega, by omega⟩
   ·exact ⟨_, _, _, rfl, by omega, by omega, by omega, by omega⟩
  ·exact ⟨_, _, _, rfl, by omega, by omega, by omega, by omega⟩
 unfold ordF
 rw [e2]
 dsimp only
 rw [e3]
 dsimp only
 unfold ord4
 split
 ·split
  ·split
   ·dsimp only; omega
   ·dsimp only; omega
  ·dsimp only; omega
 ·dsimp only; omega
section
variable (v : ByteArray) (k0 k1 k2 k3 : Int)
theorem cutLeaf (a b : ByteArray) (l : List ByteArray) (f g : Bool) (hv : v.size ≤ 5000) (hl : l.length ≤ 2) (ha : f = false → bl a = []) (hb : g = false → bl b = []) (hs : a.size ≤ 5000) (ht : b.size ≤ 5000)
  (hm : matchS (bl v) (bl a) (l.map bl) (bl b) = true) :
  Ev (fun k => (pieces_Check.f k a l b f g).bind fun t571 => (if t571 = 0 then ((pieces_Match.f k v a l b f g).bind fun t572 => (if t572 = true then ((toponymlaw13_awake.f k).bind fun t573 => (some t573)) else (some false))) else ((toponymlaw13_awake.f k).bind fun t574 => (some t574)))) true := by
 have fin : Ev (fun k => (toponymlaw13_awake.f k).bind fun t => some t) true := Ev.bind awake13_ev (Ev.now _)
 obtain ⟨c, e1, e2⟩ := check_ev a b l f g (by omega)
 refine Ev.bind e1 (ev_ite (fun hc => ?_) (fun _ => fin))
 refine Ev.bind (match_ev v a b l f g (by omega) (by omega) (by omega) (fun _ => by omega)) (ev_pos ?_ fin)
 have h5 := e2 hc
 rw [hm, Bool.and_true]
 unfold flagsOk
 cases f with
 | true =>
  cases g with
  | true => simp; omega
  | false => simp [hb rfl]; omega
 | false =>
  cases g with
  | true => simp [ha rfl]; omega
  | false =>
   have : l.length ≠ 0 := by simpa using h5
   simp [ha rfl, hb rfl, this]; omega
end
theorem cut_parts (v : List UInt8) {k0 k1 k2 k3 : Nat} (h1 : k0 ≤ k1) (h2 : k1 ≤ k2) (h3 : k2 ≤ k3) :
  v = v.take k0 ++ ((v.drop k0).take (k1 - k0) ++ ((v.drop k1).take (k2 - k1) ++ ((v.drop k2).take (k3 - k2) ++ v.drop k3))) := by
 have step : ∀ i j : Nat, i ≤ j → v.drop i = (v.drop i).take (j - i) ++ v.drop j := fun i j h => by
  have := (List.take_append_drop (j - i) (v.drop i)).symm
  rw [List.drop_drop] at this
  have e : i + (j - i) = j := by omega
  rw [e] at this
  exact this
 rw [← step k2 k3 h3, ← step k1 k2 h2, ← step k0 k1 h1, List.take_append_drop]
theorem PiecesCut (v : ByteArray) (a b c d : Int) (f g q : Bool) : ∃ k, toponymlaw13_PiecesCut.f k v a b c d f g q = some true := by
 refine Ev.rounds ?_
 have fin : Ev (fun k => (toponymlaw13_awake.f k).bind fun t => some t) true := Ev.bind awake13_ev (Ev.now _)
 show Ev (fun k => toponymlaw13_PiecesCut.f k v a b c d f g q) true
 unfold toponymlaw13_PiecesCut.f
 refine ev_ite (fun _ => fin) (fun hv => ?_)
 have hv' : v.size ≤ 5000 := by omega
 have ho : toponymlaw13_order.f (v.size : Int) a b c d f g q = some (ordF (ordN v.size a) (ordN v.size b) (ordN v.size c) (ordN v.size d)) := by
  unfold toponymlaw13_order.f
  rw [if_pos ⟨by omega, by omega⟩]
 refine ev_bind0 ho ?_
 have hk := ordF_ok (ordN_bounds (n := v.size) (x := a) (by omega)) (ordN_bounds (n := v.size) (x := b) (by omega)) (ordN_bounds (n := v.size) (x := c) (by omega)) (ordN_bounds (n := v.size) (x := d) (by omega))
 obtain ⟨⟨k0, k1, k2, k3⟩, hr⟩ : ∃ r, r = ordF (ordN v.size a) (ordN v.size b) (ordN v.size c) (ordN v.size d) := ⟨_, rfl⟩
 rw [← hr] at hk ⊢
 dsimp only at hk ⊢
 clear hr ho
 obtain ⟨g0, g1, g2, g3, g4⟩ := hk
 have parts := cut_parts (bl v) (k0 := k0.toNat) (k1 := k1.toNat) (k2 := k2.toNat) (k3 := k3.toNat) (by omega) (by omega) (by omega)
 have hs1 : bl (v.extract k0.toNat k1.toNat) = ((bl v).drop k0.toNat).take (k1.toNat - k0.toNat) := bl_extract _ _ _
 have hs2 : bl (v.extract k2.toNat k3.toNat) = ((bl v).drop k2.toNat).take (k3.toNat - k2.toNat) := bl_extract _ _ _
 have hA : bl (v.extract 0 k0.toNat) = (bl v).take k0.toNat := by rw [bl_extract]; simp
 have hB : bl (v.extract k3.toNat v.size) = (bl v).drop k3.toNat := by
  rw [bl_extract, List.take_of_length_le (by rw [List.length_drop, bl_len]; exact Nat.le_refl _)]
 generalize (bl v).take k0.toNat = A at parts hA
 generalize (bl v).drop k3.toNat = B at parts hB
 generalize ((bl v).drop k0.toNat).take (k1.toNat - k0.toNat) = s1 at parts hs1
 generalize ((bl v).drop k2.toNat).take (k3.toNat - k2.toNat) = s2 at parts hs2
 generalize ((bl v).drop k1.toNat).take (k2.toNat - k1.toNat) = m at parts
 have size_of : ∀ (x : ByteArray) (i j : Nat), (x.extract i j).size ≤ x.size := fun x i j => by
  rw [← bl_len, bl_extract, List.length_take, List.length_drop, bl_len]; omega
 have j5 : ∀ (x : Bool) (a' b' : ByteArray) (l : List ByteArray) (f' g' : Bool), (f' = false ∧ bl a' = [] ∨ f' = true ∧ bl a' = A) → (g' = false ∧ bl b' = [] ∨ g' = true ∧ bl b' = B) → a'.size ≤ 5000 → b'.size ≤ 5000 → (l.map bl = [] ∨ l.map bl = [s1]) →
   Ev (fun k => toponymlaw13_PiecesCut.j5 k v x k0 k1 k2 k3 a' l b' f' g') true := by
  intro x a' b' l f' g' ha hb hsa hsb hl
  have hl1 : l.length ≤ 1 := by
   have e : (l.map bl).length = l.length := by simp
   rcases hl with hl | hl
   ·rw [hl] at e; simp at e; omega
   ·rw [hl] at e; simp at e; omega
  have ha1 : f' = false → bl a' = [] := fun e => by rcases ha with h | h; exact h.2; rw [h.1] at e; exact absurd e (by simp)
  have hb1 : g' = false → bl b' = [] := fun e => by rcases hb with h | h; exact h.2; rw [h.1] at e; exact absurd e (by simp)
  have ha2 : bl a' = [] ∨ bl a' = A := by rcases ha with h | h; exact Or.inl h.2; exact Or.inr h.2
  have hb2 : bl b' = [] ∨ bl b' = B := by rcases hb with h | h; exact Or.inl h.2; exact Or.inr h.2
  refine Ev.step (fun k => by simp only [toponymlaw13_PiecesCut.j5]; rfl) ?_
  refine ev_ite (fun _ => ?_) (fun _ => ?_)
  ·refine ev_pos (by omega) (ev_pos (by omega) (ev_pos (by omega) (ev_pos (by omega) ?_)))
   refine ev_bind0 rfl ?_
   refine cutLeaf v a' b' _ f' g' hv' (by simp; omega) ha1 hb1 hsa hsb ?_
   rw [parts]
   refine cuts_match A s1 m s2 B ha2 hb2 ?_
   rw [List.map_append]
   rcases hl with hl | hl
   ·rw [hl]; exact Or.inr (Or.inr (Or.inl (by simp [hs2])))
   ·rw [hl]; exact Or.inr (Or.inr (Or.inr (by simp [hs2])))
  ·refine cutLeaf v a' b' _ f' g' hv' (by omega) ha1 hb1 hsa hsb ?_
   rw [parts]
   refine cuts_match A s1 m s2 B ha2 hb2 ?_
   rcases hl with hl | hl
   ·exact Or.inl hl
   ·exact Or.inr (Or.inl hl)
 have j4 : ∀ (a' b' : ByteArray) (l : List ByteArray) (f' g' : Bool), (f' = false ∧ bl a' = [] ∨ f' = true ∧ bl a' = A) → (g' = false ∧ bl b' = [] ∨ g' = true ∧ bl b' = B) → a'.size ≤ 5000 → b'.size ≤ 5000 → (l.map bl = [] ∨ l.map bl = [s1]) →
   Ev (fun k => toponymlaw13_PiecesCut.j4 k v a b c d f g q k0 k1 k2 k3 a' l b' f' g') true := by
  intro a' b' l f' g' ha hb hsa hsb hl
  refine Ev.step (fun k => by simp only [toponymlaw13_PiecesCut.j4]; rfl) ?_
  exact ev_ite (fun _ => j5 _ a' b' l f' g' ha hb hsa hsb hl) (fun _ => j5 _ a' b' l f' g' ha hb hsa hsb hl)
 have j3 : ∀ (a' b' : ByteArray) (f' g' : Bool), (f' = false ∧ bl a' = [] ∨ f' = true ∧ bl a' = A) → (g' = false ∧ bl b' = [] ∨ g' = true ∧ bl b' = B) → a'.size ≤ 5000 → b'.size ≤ 5000 →
   Ev (fun k => toponymlaw13_PiecesCut.j3 k v a b c d f g q k0 k1 k2 k3 a' b' f' g') true := by
  intro a' b' f' g' ha hb hsa hsb
  refine Ev.step (fun k => by simp only [toponymlaw13_PiecesCut.j3]; rfl) ?_
  refine ev_ite (fun _ => ?_) (fun _ => j4 a' b' _ f' g' ha hb hsa hsb (Or.inl rfl))
  exact ev_pos (by omega) (ev_pos (by omega) (ev_pos (by omega) (ev_pos (by simp) (j4 a' b' _ f' g' ha hb hsa hsb (Or.inr (by simp [hs1]))))))
 have j2 : ∀ (x : Bool) (a' : ByteArray) (f' : Bool), (f' = false ∧ bl a' = [] ∨ f' = true ∧ bl a' = A) → a'.size ≤ 5000 →
   Ev (fun k => toponymlaw13_PiecesCut.j2 k v x a b c d f g q k0 k1 k2 k3 a' (⟨#[]⟩ : ByteArray) f' false) true := by
  intro x a' f' ha hsa
  refine Ev.step (fun k => by simp only [toponymlaw13_PiecesCut.j2]; rfl) ?_
  refine ev_ite (fun _ => ?_) (fun _ => j3 a' _ f' false ha (Or.inl ⟨rfl, rfl⟩) hsa (by decide))
  exact ev_pos (by omega) (ev_pos (by omega) (j3 a' _ f' true ha (Or.inr ⟨rfl, hB⟩) hsa (Nat.le_trans (size_of _ _ _) hv')))
 have j1 : ∀ (a' : ByteArray) (f' : Bool), (f' = false ∧ bl a' = [] ∨ f' = true ∧ bl a' = A) → a'.size ≤ 5000 →
   Ev (fun k => toponymlaw13_PiecesCut.j1 k v a b c d f g q k0 k1 k2 k3 a' (⟨#[]⟩ : ByteArray) f' false) true := by
  intro a' f' ha hsa
  refine Ev.step (fun k => by simp only [toponymlaw13_PiecesCut.j1]; rfl) ?_
  exact ev_ite (fun _ => j2 _ a' f' ha hsa) (fun _ => j2 _ a' f' ha hsa)
 have j0 : ∀ x : Bool, Ev (fun k => toponymlaw13_PiecesCut.j0 k v x a b c d f g q k0 k1 k2 k3 (⟨#[]⟩ : ByteArray) (⟨#[]⟩ : ByteArray) false false) true := by
  intro x
  refine Ev.step (fun k => by simp only [toponymlaw13_PiecesCut.j0]; rfl) ?_
  refine ev_ite (fun _ => ?_) (fun _ => j1 _ false (Or.inl ⟨rfl, rfl⟩) (by decide))
  exact ev_pos (by omega) (ev_pos (by omega) (j1 _ true (Or.inr ⟨rfl, hA⟩) (Nat.le_trans (size_of _ _ _) hv')))
 exact ev_ite (fun _ => j0 _) (fun _ => j0 _)
end Go.Proofs.Ytncppcjobimilaa.Pure
