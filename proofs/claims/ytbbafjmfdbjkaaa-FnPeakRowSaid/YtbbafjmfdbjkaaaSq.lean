/- Short names for facts that the printed texts of this seat name again and again. -/
import Derived.Test.YtbbafjmfdbjkaaaNil
namespace Go.Proofs.YtbbafjmfdbjkaaaW.PrintWords
open Go Go.RowKit
theorem rA : type_of% @Kd.R_alloc := @Kd.R_alloc
theorem rN : type_of% @Kd.R_drewN := @Kd.R_drewN
theorem rD : type_of% @Kd.R_drew := @Kd.R_drew
theorem cA : type_of% @Kd.C_alloc := @Kd.C_alloc
theorem cN : type_of% @Kd.C_drewN := @Kd.C_drewN
theorem cD : type_of% @Kd.C_drew := @Kd.C_drew
theorem bA : type_of% @below_alloc := @below_alloc
theorem bN : type_of% @pw_below_drewN := @pw_below_drewN
theorem bD : type_of% @below_drew1 := @below_drew1
theorem lA : type_of% @List.setIfInBounds_toArray := @List.setIfInBounds_toArray
theorem lZ : type_of% @List.set_cons_zero := @List.set_cons_zero
theorem lS : type_of% @List.set_cons_succ := @List.set_cons_succ
end Go.Proofs.YtbbafjmfdbjkaaaW.PrintWords
