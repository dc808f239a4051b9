import Derived.Test.YtdgnekknmpfepaaGreatDoorQRange

/- The kinds of characters: tables of ranges. (The tables' rows: mkchars.py.) -/
namespace Go.Proofs.YtdgnekknmpfepaaGreatDoor.P
end Go.Proofs.YtdgnekknmpfepaaGreatDoor.P
namespace Go.Proofs.YtdgnekknmpfepaaGreatDoor.Pure
open Go.RowKit Go.Proofs.YtdgnekknmpfepaaGreatDoor.P Go.Proofs.YtdgnekknmpfepaaGreatDoorW.PrintWords Go.Proofs.YtdgnekknmpfepaaGreatDoorW.PrintLast
set_option linter.unusedVariables false
set_option linter.unusedSimpArgs false
set_option maxRecDepth 100000
def cLET : List (Int × Int) := [(65, 90), (97, 122), (170, 170), (181, 181), (186, 186), (192, 214), (216, 246), (248, 383), (700, 700), (902, 902), (904, 906), (908, 908), (910, 929), (931, 974), (1025, 1025), (1040, 1103), (1105, 1105), (1488, 1514), (4352, 4370), (4449, 4469), (4520, 4546), (8486, 8486), (8490, 8491), (8544, 8555), (8560, 8571), (12353, 12436), (19968, 20223), (44032, 55203), (64256, 64261), (65313, 65338), (65345, 65370)]
def cDIG : List (Int × Int) := [(48, 57), (178, 179), (185, 185), (1632, 1641), (8304, 8304), (8308, 8313), (8320, 8329), (65296, 65305)]
def cSIG : List (Int × Int) := [(33, 47), (58, 64), (91, 96), (123, 126), (161, 169), (171, 172), (174, 177), (180, 180), (182, 184), (187, 191), (215, 215), (247, 247), (8208, 8209), (8260, 8260), (8722, 8722), (65281, 65295), (65306, 65312), (65339, 65344), (65371, 65374)]
def cSPA : List (Int × Int) := [(9, 13), (32, 32), (133, 133), (160, 160), (8192, 8202), (8232, 8233), (8239, 8239), (8287, 8287), (12288, 12288)]
def cGON : List (Int × Int) := [(0, 8), (14, 31), (127, 132), (134, 159), (173, 173), (847, 847), (8203, 8207), (8234, 8238), (8288, 8291), (8298, 8303), (65024, 65039), (65279, 65279), (65529, 65532)]
def cBAD : List (Int × Int) := [(832, 833), (57344, 63743), (64976, 65007), (65533, 65535), (131070, 131071), (196606, 196607), (262142, 262143), (327678, 327679), (393214, 393215), (458750, 458751), (524286, 524287), (589822, 589823), (655358, 655359), (720894, 720895), (786430, 786431), (851966, 851967), (917502, 917503), (983038, 983039), (1048574, 1048575), (1114110, 1114111)]
def cKind (r : Int) : Int := if inR cLET r = true then 1 else if inR cDIG r = true then 2 else if inR cMAR r = true then 3 else if inR cSIG r = true then 4 else if inR cSPA r = true then 5 else if inR cGON r = true then 6 else if inR cBAD r = true then 7 else 0
def lowEnd : Int := -3000000000
theorem mem_skip {a b m : Int} {B : List Int} (h : m ∈ a :: B) : m ∈ a :: b :: B := by
 rcases List.mem_cons.1 h with rfl | h
 ·simp
 ·simp [h]
theorem rep_of (B : List Int) (hB : ∀ b ∈ B, lowEnd < b) (r : Int) : ∃ m ∈ lowEnd :: B, ∀ b ∈ B, (b ≤ r ↔ b ≤ m) := by
 induction B with
 | nil => exact ⟨lowEnd, by simp, by simp⟩
 | cons b B ih =>
  obtain ⟨m, hm, h⟩ := ih (fun x hx => hB x (by simp [hx]))
  by_cases c : b ≤ r
  ·by_cases d : b ≤ m
   ·refine ⟨m, mem_skip hm, fun x hx => ?_⟩
    rcases List.mem_cons.1 hx with rfl | hx
    ·exact ⟨fun _ => d, fun _ => c⟩
    ·exact h x hx
   ·refine ⟨b, by simp, fun x hx => ?_⟩
    rcases List.mem_cons.1 hx with rfl | hx
    ·exact ⟨fun _ => Int.le_refl _, fun _ => c⟩
    ·have := h x hx
     constructor
     ·intro e; have := this.1 e; omega
     ·intro e; omega
  ·have hlm : ¬ b ≤ m := by
    intro d
    rcases List.mem_cons.1 hm with rfl | hm2
    ·have := hB b (by simp); omega
    ·have := (h m hm2).2 (Int.le_refl _); omega
   refine ⟨m, mem_skip hm, fun x hx => ?_⟩
   rcases List.mem_cons.1 hx with rfl | hx
   ·exact ⟨fun e => absurd e c, fun e => absurd e hlm⟩
   ·exact h x hx
def okR (B : List Int) (l : List (Int × Int)) : Bool := l.all (fun p => B.contains p.1 && B.contains (p.2 + 1))
theorem inR_congr {B : List Int} {l : List (Int × Int)} {r m : Int} (ho : okR B l = true) (h : ∀ b ∈ B, (b ≤ r ↔ b ≤ m)) : inR l r = inR l m := by
 induction l with
 | nil => rfl
 | cons p l ih =>
  simp only [okR, List.all_cons, Bool.and_eq_true, List.contains_iff_mem] at ho
  have ih := ih (by simpa only [okR, List.contains_iff_mem] using ho.2)
  have h1 := h _ ho.1.1
  have h2 := h _ ho.1.2
  have e1 : decide (p.1 ≤ r) = decide (p.1 ≤ m) := by simp [h1]
  have e2 : decide (r ≤ p.2) = decide (m ≤ p.2) := by
   have : (r ≤ p.2) ↔ (m ≤ p.2) := by omega
   simp [this]
  unfold inR at ih ⊢
  rw [List.any_cons, List.any_cons, ih, e1, e2]
def ENDS : List Int := (cLET ++ cDIG ++ cMAR ++ cSIG ++ cSPA ++ cGON ++ cBAD).flatMap (fun p => [p.1, p.2 + 1])
theorem kind_congr {r m : Int} (h : ∀ b ∈ ENDS, (b ≤ r ↔ b ≤ m)) : cKind r = cKind m := by
 unfold cKind
 rw [inR_congr (B := ENDS) (l := cLET) (by decide +kernel) h, inR_congr (B := ENDS) (l := cDIG) (by decide +kernel) h, inR_congr (B := ENDS) (l := cMAR) (by decide +kernel) h,
  inR_congr (B := ENDS) (l := cSIG) (by decide +kernel) h, inR_congr (B := ENDS) (l := cSPA) (by decide +kernel) h, inR_congr (B := ENDS) (l := cGON) (by decide +kernel) h, inR_congr (B := ENDS) (l := cBAD) (by decide +kernel) h]
theorem ends_low : ∀ b ∈ ENDS, lowEnd < b := by
 have : ENDS.all (fun b => decide (lowEnd < b)) = true := by decide +kernel
 intro b hb
 simpa using List.all_eq_true.1 this b hb
end Go.Proofs.YtdgnekknmpfepaaGreatDoor.Pure
