/- Short words for tactics that the printed texts of this seat use again and again. -/
import Derived.Test.YtbbafjmfdbjkaaaNil
set_option hygiene false
namespace Go.Proofs.Ytbbafjmfdbjkaaa.Sq
macro "rKR_" : tactic => `(tactic| (with_reducible repeat (first | apply Kd.R_alloc | apply Kd.R_drewN | apply Kd.R_drew)))
macro "rHB_" : tactic => `(tactic| repeat (first | (with_reducible first | exact HB.out | apply below_alloc | apply pw_below_drewN | apply below_drew1) | exact HB.out))
macro "rKC_ " t:term : tactic => `(tactic| repeat (first | exact $t | (with_reducible refine Kd.C_alloc ?_ _) | (with_reducible refine Kd.C_drewN ?_ _) | (with_reducible refine Kd.C_drew ?_)))
macro "sAct_" : tactic => `(tactic| simp only [Act.put, List.setIfInBounds_toArray, List.set_cons_zero, List.set_cons_succ, i64_w, i32_w])
end Go.Proofs.Ytbbafjmfdbjkaaa.Sq
