import Derived.Test.YtpihglokjcbjkaaQNfkcRange
import Derived.Test.YtpihglokjcbjkaaQNfkcRef
import Derived.Test.YtpihglokjcbjkaaQUtfRef2
import Derived.Test.YtpihglokjcbjkaaQUtfRefEnc
import Derived.Test.YtpihglokjcbjkaaT5
import Derived.Test.YtpihglokjcbjkaaT12
/- NfkcTexts: any texts have the document's normal forms, and the same, or not, or are none; no condition. -/
namespace Go.Proofs.Ytpihglokjcbjkaa.Pure
open Go.RowKit Go.Proofs.Ytpihglokjcbjkaa.P Go.Proofs.YtpihglokjcbjkaaW.PrintWords Go.Proofs.YtpihglokjcbjkaaW.PrintLast
open Utf
set_option maxRecDepth 100000
theorem rtext_ev (b : Bool) (S : ByteArray) (hs : S.size < 320) : Ev (fun k => toponymref08_Text.f k b S) (nText b S) := by
 unfold toponymref08_Text.f nText
 refine Ev.bind (rrunes_ev (by omega)) ?_
 rcases read_form S with ⟨l, g1, g2, g3, g4, g5⟩ | g
 ·rw [if_pos g5, g4]
  refine ev_pos g5 ?_
  have hm := nRun_length b l
  have hw : ∀ x ∈ l, inW x := fun x hx => by have := (g1 x hx).1; unfold inW; omega
  exact Ev.bind (nref_ev b l hw (by omega)) (Ev.bind (rencode_ev _ (by omega) (fun x hx => by have := nRun_in b hw x hx; unfold inW at this; omega)) (ev_some rfl))
 ·rw [if_neg (by rw [g]; omega)]
  exact ev_neg (by rw [g]; omega) (Ev.now _)
theorem NfkcTexts : toponymlaw08_NfkcTexts.Pure := by
 intro b S T h1 h2
 refine Ev.rounds ?_
 have aw : Ev (fun k => (toponymlaw08_awake.f k).bind fun t => some t) true := Ev.bind (Ev.of toponymlaw08_awake.mono (k := 100) (by decide +kernel)) (Ev.now _)
 have yes : Ev (fun k => toponymlaw08_NfkcTexts.j0 k b S T true) true := by
  refine Ev.step (fun k => by simp only [toponymlaw08_NfkcTexts.j0]; rfl) ?_
  exact ev_pos (by first | rfl | trivial) aw
 unfold toponymlaw08_NfkcTexts.f
 refine ev_ite (fun _ => yes) (fun h => ?_)
 by_cases g : (T.size : Int) > 300
 ·rw [decide_eq_true g]; exact yes
 rw [decide_eq_false g]
 refine Ev.step (fun k => by simp only [toponymlaw08_NfkcTexts.j0]; rfl) ?_
 refine ev_neg (by simp) ?_
 refine Ev.bind (ntext_ev b S (by omega)) (Ev.bind (rtext_ev b S (by omega)) ?_)
 have hS : Ev (fun k => nfkc_Same.f k b S T) ((if (nText b S).2 = 0 then (nText b T).2 else (nText b S).2) == 0 && (nText b S).1.toList == (nText b T).1.toList, if (nText b S).2 = 0 then (nText b T).2 else (nText b S).2) := by
  unfold nfkc_Same.f
  exact Ev.bind (ntext_ev b S (by omega)) (Ev.bind (ntext_ev b T (by omega)) (Ev.now _))
 have hR : Ev (fun k => toponymref08_Same.f k b S T) ((if (nText b S).2 = 0 then (nText b T).2 else (nText b S).2) == 0 && (nText b S).1.toList == (nText b T).1.toList, if (nText b S).2 = 0 then (nText b T).2 else (nText b S).2) := by
  unfold toponymref08_Same.f
  refine Ev.bind (rtext_ev b S (by omega)) (Ev.bind (rtext_ev b T (by omega)) ?_)
  refine ev_ite (fun e1 => ?_) (fun e1 => ?_)
  ·rw [if_pos e1]
   refine ev_ite (fun e2 => ev_some ?_) (fun e2 => ev_some ?_)
   ·rw [e2]; simp
   ·rw [beq_eq_false_iff_ne.2 e2]; simp
  ·rw [if_neg e1]
   refine ev_some ?_
   rw [beq_eq_false_iff_ne.2 e1]; simp
 refine Ev.bind hS (Ev.bind hR ?_)
 exact ev_pos rfl (ev_pos rfl (ev_pos (by simp) (ev_pos rfl aw)))
end Go.Proofs.Ytpihglokjcbjkaa.Pure
