/- FnCall: for every input the law returns true, and the input reads as it did; the tied card. No condition beyond the card's own. -/
import Derived.Test.YtemahcjglmhefaaDoorRowFnCall
import Derived.Test.YtemahcjglmhefaaDoorLCall
namespace Go.Proofs.YtemahcjglmhefaaDoor
theorem fnCall_proved : Rows.FnCallCardSaid := fnCall.card fun A n cap xs w hr hb hG => FnCall_c A n cap xs w hr hb hG
#print axioms fnCall_proved
end Go.Proofs.YtemahcjglmhefaaDoor
