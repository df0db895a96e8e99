/- Short names for facts that the printed texts of this seat name again and again. -/
import Derived.Test.YtkofidpgbmajdaaNil
namespace Go.Proofs.YtkofidpgbmajdaaW.PrintWords
open Go Go.RowKit
theorem rA : type_of% @Kd.R_alloc := @Kd.R_alloc
theorem rN : type_of% @Kd.R_drewN := @Kd.R_drewN
theorem rD : type_of% @Kd.R_drew := @Kd.R_drew
theorem cA : type_of% @Kd.C_alloc := @Kd.C_alloc
theorem cN : type_of% @Kd.C_drewN := @Kd.C_drewN
theorem cD : type_of% @Kd.C_drew := @Kd.C_drew
theorem bA : type_of% @below_alloc := @below_alloc
theorem bN : type_of% @pw_below_drewN := @pw_below_drewN
theorem bD : type_of% @below_drew1 := @below_drew1
theorem lA : type_of% @List.setIfInBounds_toArray := @List.setIfInBounds_toArray
theorem lZ : type_of% @List.set_cons_zero := @List.set_cons_zero
theorem lS : type_of% @List.set_cons_succ := @List.set_cons_succ
theorem oD : type_of% @of_decide_eq_true := @of_decide_eq_true
theorem kR : type_of% @Kd.R_reads' := @Kd.R_reads'
theorem dD : type_of% @World.drewN_drewN := @World.drewN_drewN
theorem aI : type_of% @Kd.at_int := @Kd.at_int
theorem kE : type_of% @Kd.R_elder' := @Kd.R_elder'
theorem nA : type_of% @Nat.add_assoc := @Nat.add_assoc
theorem bS : type_of% @below_size := @below_size
theorem bT : type_of% @below_step := @below_step
theorem kS : type_of% @Kd.R_slice := @Kd.R_slice
theorem kN : type_of% @Kd.R_new' := @Kd.R_new'
end Go.Proofs.YtkofidpgbmajdaaW.PrintWords
