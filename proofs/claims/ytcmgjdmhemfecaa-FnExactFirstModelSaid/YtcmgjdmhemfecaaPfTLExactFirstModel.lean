/- Printed texts: what the reading of these functions is. No condition. -/
import Derived.Test.YtcmgjdmhemfecaaPvEnv
import Derived.KernelRfl
set_option linter.unusedVariables false
namespace Go.Proofs.Ytcmgjdmhemfecaa.Pf
open Go Go.Pv
/-! #### laws_FnExactFirstModel -/
namespace laws_FnExactFirstModel
abbrev R := ((Bool × Unit) × Unit)
def Fm (call : Cl) (k : Nat)  (a0 : (Int × ((List (List Int)) × Unit))) : Option R :=
    (call (32 : Nat) s_laws_szCnf (a0, (1048576 : Int), ())).bind fun (y0 : (Int × PUnit) × PUnit) =>
    bif decide (y0.fst.fst < (0 : Int)) then some ((true, ()), ())
    else
      (call (34 : Nat) s_laws_toCnf (a0, ())).bind fun (y1 : ((Int × List (List Int) × PUnit) × PUnit) × PUnit) =>
        (call (70 : Nat) s_spec_FirstModel (y1.fst.fst, ())).bind fun (y2 : (List Bool × Bool × PUnit) × PUnit) =>
          (call (34 : Nat) s_laws_toCnf (a0, ())).bind fun (y3 : ((Int × List (List Int) × PUnit) × PUnit) × PUnit) =>
            (call (71 : Nat) s_impl_FirstModel ((y3.fst.fst.fst, y3.fst.fst.snd.fst, y3.fst.fst.snd.snd), ())).bind
              fun (y4 : (List Bool × Bool × PUnit) × PUnit) =>
              (call (50 : Nat) s_laws_eqBoolS (y4.fst.fst, y2.fst.fst, ())).bind fun (y5 : (Bool × PUnit) × PUnit) =>
                bif !y5.fst.fst then some ((false, ()), ())
                else
                  bif !y4.fst.snd.fst == y2.fst.snd.fst then some ((false, ()), ())
                  else
                    (call (34 : Nat) s_laws_toCnf (a0, ())).bind
                      fun (y6 : ((Int × List (List Int) × PUnit) × PUnit) × PUnit) =>
                      (call (36 : Nat) s_laws_eqCnf
                            ((y3.fst.fst.fst, y3.fst.fst.snd.fst, y3.fst.fst.snd.snd),
                              (y6.fst.fst.fst, y6.fst.fst.snd.fst, y6.fst.fst.snd.snd), ())).bind
                        fun (y7 : (Bool × PUnit) × PUnit) =>
                        bif !y7.fst.fst then some ((false, ()), ())
                        else
                          (call (40 : Nat) s_laws_markCnf
                                ((y3.fst.fst.fst, y3.fst.fst.snd.fst, y3.fst.fst.snd.snd), (1 : Int), ())).bind
                            fun (y8 : (Int × PUnit) × (Int × List (List Int) × PUnit) × PUnit) =>
                            bif decide (y8.fst.fst < (0 : Int)) then some ((false, ()), ())
                            else
                              (call (50 : Nat) s_laws_eqBoolS (y4.fst.fst, y2.fst.fst, ())).bind
                                fun (y9 : (Bool × PUnit) × PUnit) =>
                                bif !y9.fst.fst then some ((false, ()), ())
                                else
                                  bif !y4.fst.snd.fst == y2.fst.snd.fst then some ((false, ()), ())
                                  else
                                    (call (72 : Nat) s_laws_markBoolS (y4.fst.fst, (1 : Int), ())).bind
                                      fun (y10 : (Int × PUnit) × List Bool × PUnit) =>
                                      (call (73 : Nat) s_laws_heldBoolS (y10.snd.fst, (1 : Int), ())).bind
                                        fun (y11 : (Int × PUnit) × PUnit) =>
                                        bif decide (y11.fst.fst < (0 : Int)) then some ((false, ()), ())
                                        else
                                          bif y11.fst.fst != y10.fst.fst then some ((false, ()), ())
                                          else
                                            (call (34 : Nat) s_laws_toCnf (a0, ())).bind
                                              fun (y12 : ((Int × List (List Int) × PUnit) × PUnit) × PUnit) =>
                                              (call (71 : Nat) s_impl_FirstModel
                                                    ((y12.fst.fst.fst, y12.fst.fst.snd.fst, y12.fst.fst.snd.snd),
                                                      ())).bind
                                                fun (y13 : (List Bool × Bool × PUnit) × PUnit) =>
                                                (call (50 : Nat) s_laws_eqBoolS (y13.fst.fst, y2.fst.fst, ())).bind
                                                  fun (y14 : (Bool × PUnit) × PUnit) =>
                                                  bif !y14.fst.fst then some ((false, ()), ())
                                                  else
                                                    bif !y13.fst.snd.fst == y2.fst.snd.fst then some ((false, ()), ())
                                                    else
                                                      (call (73 : Nat) s_laws_heldBoolS (y10.snd.fst, (1 : Int), ())).bind
                                                        fun (y15 : (Int × PUnit) × PUnit) =>
                                                        bif decide (y15.fst.fst < (0 : Int)) then some ((false, ()), ())
                                                        else
                                                          bif y15.fst.fst != y10.fst.fst then some ((false, ()), ())
                                                          else some ((true, ()), ())
def F (call : Cl) (k : Nat) (a0 : (Int × ((List (List Int)) × Unit))) : Option R := Fm call k  a0
theorem F_eq (call : Cl) (k : Nat) (a0 : (Int × ((List (List Int)) × Unit))) : bodyK E call n_laws_FnExactFirstModel k s_laws_FnExactFirstModel (a0, ()) = F call k a0 := by
  kernel_rfl
end laws_FnExactFirstModel
end Go.Proofs.Ytcmgjdmhemfecaa.Pf
