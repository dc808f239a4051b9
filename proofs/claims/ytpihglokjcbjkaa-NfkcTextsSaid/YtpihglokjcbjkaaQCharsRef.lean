import Derived.Test.YtpihglokjcbjkaaQKind
import Derived.Test.YtpihglokjcbjkaaT6
/- The reference's Kind is the program's. -/
namespace Go.Proofs.Ytpihglokjcbjkaa.Pure
open Go.RowKit Go.Proofs.Ytpihglokjcbjkaa.P Go.Proofs.YtpihglokjcbjkaaW.PrintWords Go.Proofs.YtpihglokjcbjkaaW.PrintLast
set_option linter.unusedVariables false
set_option linter.unusedSimpArgs false
set_option maxRecDepth 100000
def look47 (r : Int) : List S85 → Int
 | [] => 0
 | x :: t => if x.f0 ≤ r ∧ r ≤ x.f1 then x.f2 else look47 r t
theorem rd47_mid (pre : List S85) (a : S85) (suf : List S85) : rd_T85 (pre ++ a :: suf) (pre.length : Int) = a := by
 simp [rd_T85, List.getD_eq_getElem?_getD]
theorem look47_ev (r : Int) (pre suf : List S85) (hb : pre.length + suf.length < 1000) : Ev (fun k => toponymref03_Kind.l0 k r (pre ++ suf) (pre.length : Int)) (look47 r suf) := by
 induction suf generalizing pre with
 | nil =>
  refine Ev.step (fun k => by simp only [toponymref03_Kind.l0]; rfl) ?_
  exact ev_neg (by simp) (ev_some rfl)
 | cons x t ih =>
  refine Ev.step (fun k => by simp only [toponymref03_Kind.l0]; rfl) ?_
  refine ev_pos (by simp; omega) (ev_pos (by omega) ?_)
  simp only [rd47_mid]
  simp only [List.length_cons] at hb
  have next : Ev (fun k => toponymref03_Kind.l0 k r (pre ++ x :: t) (wrap64 ((pre.length : Int) + 1))) (look47 r t) := by
   have := ih (pre ++ [x]) (by simp; omega)
   rw [w64 (by omega) (by omega)]
   simpa using this
  unfold look47
  by_cases c1 : x.f0 ≤ r
  ·refine ev_pos c1 ?_
   by_cases c2 : r ≤ x.f1
   ·rw [if_pos (show x.f0 ≤ r ∧ r ≤ x.f1 from ⟨c1, c2⟩)]
    exact ev_pos c2 (Ev.now _)
   ·rw [if_neg (show ¬ (x.f0 ≤ r ∧ r ≤ x.f1) from fun e => c2 e.2)]
    exact ev_neg c2 next
  ·rw [if_neg (show ¬ (x.f0 ≤ r ∧ r ≤ x.f1) from fun e => c1 e.1)]
   exact ev_neg c1 next
def ROWS47 : List S85 := (toponymref03_Rows.f 30).getD []
theorem rows47_is : (toponymref03_Rows.f 30).isSome = true := by decide +kernel
theorem rows47_ev : Ev (fun k => toponymref03_Rows.f k) ROWS47 := by
 refine Ev.of toponymref03_Rows.mono (k := 30) ?_
 obtain ⟨x, hx⟩ := Option.isSome_iff_exists.1 rows47_is
 rw [ROWS47, hx]
 rfl
theorem rows47_len : ROWS47.length = 106 := by decide +kernel
def rKind (r : Int) : Int := if 0 ≤ r ∧ r < 128 then cKind r else look47 r ROWS47
theorem ascii_ev (r : Int) (h0 : 0 ≤ r) (h1 : r < 128) : Ev (fun k => toponymref03_ascii.f k r) (cKind r) := by
 refine Ev.of (toponymref03_ascii.mono r) (k := 6) ?_
 obtain ⟨n, rfl⟩ := Int.eq_ofNat_of_zero_le h0
 have : ∀ n : Fin 128, toponymref03_ascii.f 6 ((n.val : Nat) : Int) = some (cKind ((n.val : Nat) : Int)) := by decide +kernel
 exact this ⟨n, by omega⟩
theorem rkind_ev (r : Int) : Ev (fun k => toponymref03_Kind.f k r) (rKind r) := by
 have hi : Ev (fun k => toponymref03_Kind.j0 k r false) (look47 r ROWS47) := by
  refine Ev.step (fun k => by simp only [toponymref03_Kind.j0]; rfl) ?_
  refine ev_neg (by simp) ?_
  exact Ev.bind rows47_ev (look47_ev r [] ROWS47 (by rw [rows47_len]; decide))
 unfold toponymref03_Kind.f rKind
 refine ev_ite (fun h => ?_) (fun h => ?_)
 ·by_cases h2 : r < 128
  ·rw [if_pos (show 0 ≤ r ∧ r < 128 from ⟨h, h2⟩), show decide (r < 128) = true from by simp [h2]]
   refine Ev.step (fun k => by simp only [toponymref03_Kind.j0]; rfl) ?_
   refine ev_pos (by simp) ?_
   exact Ev.bind (ascii_ev r h h2) (Ev.now _)
  ·rw [if_neg (show ¬ (0 ≤ r ∧ r < 128) from fun e => h2 e.2), show decide (r < 128) = false from by simp [h2]]
   exact hi
 ·rw [if_neg (show ¬ (0 ≤ r ∧ r < 128) from fun e => h e.1)]
  exact hi
def okL (B : List Int) (l : List S85) : Bool := l.all (fun p => B.contains p.f0 && B.contains (p.f1 + 1))
theorem look47_congr {B : List Int} {l : List S85} {r m : Int} (ho : okL B l = true) (h : ∀ b ∈ B, (b ≤ r ↔ b ≤ m)) : look47 r l = look47 m l := by
 induction l with
 | nil => rfl
 | cons p l ih =>
  simp only [okL, List.all_cons, Bool.and_eq_true, List.contains_iff_mem] at ho
  have ih := ih (by simpa only [okL, List.contains_iff_mem] using ho.2)
  have h1 := h _ ho.1.1
  have h2 := h _ ho.1.2
  have e : (p.f0 ≤ r ∧ r ≤ p.f1) ↔ (p.f0 ≤ m ∧ m ≤ p.f1) := by omega
  unfold look47
  rw [ih]
  by_cases c : p.f0 ≤ m ∧ m ≤ p.f1
  ·rw [if_pos c, if_pos (e.2 c)]
  ·rw [if_neg c, if_neg (fun x => c (e.1 x))]
theorem rKind_cKind (r : Int) : rKind r = cKind r := by
 unfold rKind
 by_cases c : 0 ≤ r ∧ r < 128
 ·rw [if_pos c]
 rw [if_neg c]
 obtain ⟨m, hm, h⟩ := rep_of ENDS ends_low r
 rw [look47_congr (B := ENDS) (l := ROWS47) (by decide +kernel) h, kind_congr h]
 have : (lowEnd :: ENDS).all (fun m => look47 m ROWS47 == cKind m) = true := by decide +kernel
 simpa using List.all_eq_true.1 this m hm
end Go.Proofs.Ytpihglokjcbjkaa.Pure
