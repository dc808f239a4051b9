import Derived.Test.YtpihglokjcbjkaaQNfkc
import Derived.Test.YtpihglokjcbjkaaQOrdRef
import Derived.Test.YtpihglokjcbjkaaQDecompRef
import Derived.Test.YtpihglokjcbjkaaQCompRef
import Derived.Test.YtpihglokjcbjkaaT11
/- The reference's Runes. -/
namespace Go.Proofs.Ytpihglokjcbjkaa.Pure
open Go.RowKit Go.Proofs.Ytpihglokjcbjkaa.P Go.Proofs.YtpihglokjcbjkaaW.PrintWords Go.Proofs.YtpihglokjcbjkaaW.PrintLast
set_option linter.unusedVariables false
set_option linter.unusedSimpArgs false
theorem nref_ev (b : Bool) (l : List Int) (hw : ∀ x ∈ l, -2147483648 ≤ x ∧ x ≤ 2147483647) (h : l.length < 350) : Ev (fun k => toponymref08_Runes.f k b l) (nRun b l) := by
 have hm := dAll_lens b l
 have ho := aOrd_length (c := dCls) (dAll b l)
 unfold toponymref08_Runes.f
 exact Ev.bind (rall_ev b l hw (by omega)) (Ev.bind (rorder_ev _ (by omega)) (Ev.bind (rcomp_ev _ (by omega)) (Ev.now _)))
end Go.Proofs.Ytpihglokjcbjkaa.Pure
