/- Walks and laws that LargeData asks for. -/
import Derived.Test.YtfefijlnbhbplaaGreatDoorGX44
import Derived.Test.YtfefijlnbhbplaaGreatDoorTie
import Derived.Test.YtfefijlnbhbplaaGreatDoorCards
set_option linter.unusedVariables false
set_option linter.unusedSimpArgs false
set_option maxHeartbeats 200000000
namespace Go.Proofs.YtfefijlnbhbplaaGreatDoor
open Go Go.ChangeShapes Go.WideShapes Go.ChangeAt Go.RowKit Limb Go.Proofs.Tryz
theorem EU{a b:Bool}(h1:a=true)(c:b=true):(a&&b)=true:=by rw[h1,c];rfl
theorem tL:joinedFacts Tryz.prog 3 Tryz.f3 Rows.largeDataSpec Rows.largeDataRow=true:=by
 unfold joinedFacts;repeat' (with_reducible apply EU)
 all_goals(as_aux_lemma=>kernel_rfl)
end Go.Proofs.YtfefijlnbhbplaaGreatDoor
