/- FnServe: for every input the law returns true, and the input reads as it did; the tied card. No condition beyond the card's own. -/
import Derived.Test.YtemahcjglmhefaaGreatDoorKRowFnServe
import Derived.Test.YtemahcjglmhefaaGreatDoorKLServe
namespace Go.Proofs.YtemahcjglmhefaaGreatDoor
set_option linter.unusedVariables false
set_option linter.unusedSimpArgs false
theorem fnServe_proved : Rows.FnServeCardSaid := fnServe.card fun A n cap xs w hr hb hG => FnServe_c A n cap xs w hr hb hG
#print axioms fnServe_proved
end Go.Proofs.YtemahcjglmhefaaGreatDoor
