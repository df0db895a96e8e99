/- A short word for the step that runs a printed function on. -/
import Derived.Test.YtbbafjmfdbjkaaaBase
namespace Go.Proofs.Ytbbafjmfdbjkaaa.Rn
open Go.RowKit Go.Proofs.Ytbbafjmfdbjkaaa.B Go.Proofs.Ytbbafjmfdbjkaaa.C
macro "rn_" : tactic => `(tactic| simp (disch := omega) only [if_pos, if_neg, w64, rdn, rd0, tn, sc, Option.bind_some, ↓reduceIte, Bool.false_eq_true, Bool.true_eq_false])
end Go.Proofs.Ytbbafjmfdbjkaaa.Rn
