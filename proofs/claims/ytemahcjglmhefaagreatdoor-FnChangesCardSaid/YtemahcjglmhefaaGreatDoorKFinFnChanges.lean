/- FnChanges: for every input the law returns true, and the input reads as it did; the tied card. No condition beyond the card's own. -/
import Derived.Test.YtemahcjglmhefaaGreatDoorKRowFnChanges
import Derived.Test.YtemahcjglmhefaaGreatDoorKLChanges
namespace Go.Proofs.YtemahcjglmhefaaGreatDoor
set_option linter.unusedVariables false
set_option linter.unusedSimpArgs false
theorem fnChanges_proved : Rows.FnChangesCardSaid := fnChanges.card fun A n cap xs w hr hb hG => FnChanges_c A n cap xs w hr hb hG
#print axioms fnChanges_proved
end Go.Proofs.YtemahcjglmhefaaGreatDoor
