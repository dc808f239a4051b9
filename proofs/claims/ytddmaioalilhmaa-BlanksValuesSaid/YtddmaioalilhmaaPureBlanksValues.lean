import Derived.Test.YtddmaioalilhmaaQBlankRef
import Derived.Test.YtddmaioalilhmaaQSame
import Derived.Test.YtddmaioalilhmaaP8
import Derived.Test.YtddmaioalilhmaaP14
/- BlanksValues: any numbers are told as a value, as a number and as a phone number as the document says; no condition. -/
namespace Go.Proofs.Ytddmaioalilhmaa.Pure
open Go.RowKit Go.Proofs.Ytddmaioalilhmaa.P Go.Proofs.YtddmaioalilhmaaW.PrintWords Go.Proofs.YtddmaioalilhmaaW.PrintLast
set_option maxRecDepth 100000
theorem leftS_length {S mk : Int → Bool} (l : List Int) : (leftS (S := S) (mk := mk) l).length ≤ l.length := by
  unfold leftS
  rw [List.length_map]
  have := List.length_filter_le (fun x : Int × Bool => !x.2) (tgS S mk l)
  rw [tgS_length] at this
  exact this
theorem BlanksValues : toponymlaw11_BlanksValues.Pure := by
  intro l h1 h2 h3
  refine Ev.rounds ?_
  unfold toponymlaw11_BlanksValues.f
  have aw : Ev (fun k => (toponymlaw11_awake.f k).bind fun t => some t) true := Ev.bind (Ev.of toponymlaw11_awake.mono (k := 100) (by decide +kernel)) (Ev.now _)
  refine ev_ite (fun _ => aw) (fun h => ?_)
  have e1 := vVal_length l
  have e2 := leftS_length (S := sp) (mk := mkc) l
  have e3 := leftS_length (S := fun a => sp a || hyp a) (mk := mkc) l
  refine Ev.bind (value_ev l (by omega)) (Ev.bind (rvalue_ev l (by omega)) (Ev.bind (same_ev _ _ (by omega)) (ev_pos (by simp) ?_)))
  refine Ev.bind (numeric_ev l (by omega)) (Ev.bind (rnumeric_ev l (by omega)) (Ev.bind (same_ev _ _ (by omega)) (ev_pos (by simp) ?_)))
  refine Ev.bind (phone_ev l (by omega)) (Ev.bind (rphone_ev l (by omega)) (Ev.bind (same_ev _ _ (by omega)) (ev_pos (by simp) aw)))
end Go.Proofs.Ytddmaioalilhmaa.Pure
