/- Printed texts: what the reading of these functions is. No condition. -/
import Derived.Test.YtcmgjdmhemfecaaPvEnv
import Derived.KernelRfl
set_option linter.unusedVariables false
namespace Go.Proofs.Ytcmgjdmhemfecaa.Pf
open Go Go.Pv
/-! #### laws_FnExactCountCnf -/
namespace laws_FnExactCountCnf
abbrev R := ((Bool × Unit) × Unit)
def Fm (call : Cl) (k : Nat)  (a0 : (Int × ((List (List Int)) × Unit))) : Option R :=
    (call (32 : Nat) s_laws_szCnf (a0, (1048576 : Int), ())).bind fun (y0 : (Int × PUnit) × PUnit) =>
    bif decide (y0.fst.fst < (0 : Int)) then some ((true, ()), ())
    else
      (call (34 : Nat) s_laws_toCnf (a0, ())).bind fun (y1 : ((Int × List (List Int) × PUnit) × PUnit) × PUnit) =>
        (call (78 : Nat) s_spec_CountCnf ((y1.fst.fst.fst, y1.fst.fst.snd.fst, y1.fst.fst.snd.snd), ())).bind
          fun (y2 : (List Int × PUnit) × PUnit) =>
          (call (34 : Nat) s_laws_toCnf (a0, ())).bind fun (y3 : ((Int × List (List Int) × PUnit) × PUnit) × PUnit) =>
            (call (79 : Nat) s_impl_CountCnf ((y3.fst.fst.fst, y3.fst.fst.snd.fst, y3.fst.fst.snd.snd), ())).bind
              fun (y4 : (List Int × PUnit) × PUnit) =>
              (call (39 : Nat) s_laws_eqInt64S (y4.fst.fst, y2.fst.fst, ())).bind fun (y5 : (Bool × PUnit) × PUnit) =>
                bif !y5.fst.fst then some ((false, ()), ())
                else
                  (call (34 : Nat) s_laws_toCnf (a0, ())).bind
                    fun (y6 : ((Int × List (List Int) × PUnit) × PUnit) × PUnit) =>
                    (call (36 : Nat) s_laws_eqCnf
                          ((y3.fst.fst.fst, y3.fst.fst.snd.fst, y3.fst.fst.snd.snd),
                            (y6.fst.fst.fst, y6.fst.fst.snd.fst, y6.fst.fst.snd.snd), ())).bind
                      fun (y7 : (Bool × PUnit) × PUnit) =>
                      bif !y7.fst.fst then some ((false, ()), ())
                      else
                        (call (40 : Nat) s_laws_markCnf
                              ((y3.fst.fst.fst, y3.fst.fst.snd.fst, y3.fst.fst.snd.snd), (1 : Int), ())).bind
                          fun (y8 : (Int × PUnit) × (Int × List (List Int) × PUnit) × PUnit) =>
                          bif decide (y8.fst.fst < (0 : Int)) then some ((false, ()), ())
                          else
                            (call (39 : Nat) s_laws_eqInt64S (y4.fst.fst, y2.fst.fst, ())).bind
                              fun (y9 : (Bool × PUnit) × PUnit) =>
                              bif !y9.fst.fst then some ((false, ()), ())
                              else
                                (call (41 : Nat) s_laws_markInt64S (y4.fst.fst, (1 : Int), ())).bind
                                  fun (y10 : (Int × PUnit) × List Int × PUnit) =>
                                  (call (42 : Nat) s_laws_heldInt64S (y10.snd.fst, (1 : Int), ())).bind
                                    fun (y11 : (Int × PUnit) × PUnit) =>
                                    bif decide (y11.fst.fst < (0 : Int)) then some ((false, ()), ())
                                    else
                                      bif y11.fst.fst != y10.fst.fst then some ((false, ()), ())
                                      else
                                        (call (34 : Nat) s_laws_toCnf (a0, ())).bind
                                          fun (y12 : ((Int × List (List Int) × PUnit) × PUnit) × PUnit) =>
                                          (call (79 : Nat) s_impl_CountCnf
                                                ((y12.fst.fst.fst, y12.fst.fst.snd.fst, y12.fst.fst.snd.snd), ())).bind
                                            fun (y13 : (List Int × PUnit) × PUnit) =>
                                            (call (39 : Nat) s_laws_eqInt64S (y13.fst.fst, y2.fst.fst, ())).bind
                                              fun (y14 : (Bool × PUnit) × PUnit) =>
                                              bif !y14.fst.fst then some ((false, ()), ())
                                              else
                                                (call (42 : Nat) s_laws_heldInt64S (y10.snd.fst, (1 : Int), ())).bind
                                                  fun (y15 : (Int × PUnit) × PUnit) =>
                                                  bif decide (y15.fst.fst < (0 : Int)) then some ((false, ()), ())
                                                  else
                                                    bif y15.fst.fst != y10.fst.fst then some ((false, ()), ())
                                                    else some ((true, ()), ())
def F (call : Cl) (k : Nat) (a0 : (Int × ((List (List Int)) × Unit))) : Option R := Fm call k  a0
theorem F_eq (call : Cl) (k : Nat) (a0 : (Int × ((List (List Int)) × Unit))) : bodyK E call n_laws_FnExactCountCnf k s_laws_FnExactCountCnf (a0, ()) = F call k a0 := by
  kernel_rfl
end laws_FnExactCountCnf
end Go.Proofs.Ytcmgjdmhemfecaa.Pf
