/- Printed texts: what the reading of these functions is. No condition. -/
import Derived.Test.YtcmgjdmhemfecaaPvEnv
import Derived.KernelRfl
set_option linter.unusedVariables false
namespace Go.Proofs.Ytcmgjdmhemfecaa.Pf
open Go Go.Pv
/-! #### laws_FnExactIsModel -/
namespace laws_FnExactIsModel
abbrev R := ((Bool × Unit) × Unit)
def Fm (call : Cl) (k : Nat)  (a0 : (Int × ((List (List Int)) × Unit))) (a1 : (List Bool)) : Option R :=
    bif decide ((↑a1.length : Int) > (1048576 : Int)) then some ((true, ()), ())
  else
    (call (32 : Nat) s_laws_szCnf (a0, (1048576 : Int), ())).bind fun (y0 : (Int × PUnit) × PUnit) =>
      bif decide (y0.fst.fst < (0 : Int)) then some ((true, ()), ())
      else
        (call (34 : Nat) s_laws_toCnf (a0, ())).bind fun (y1 : ((Int × List (List Int) × PUnit) × PUnit) × PUnit) =>
          (call (48 : Nat) s_laws_toBoolS (a1, ())).bind fun (y2 : (List Bool × PUnit) × PUnit) =>
            (call (47 : Nat) s_spec_IsModel
                  ((y1.fst.fst.fst, y1.fst.fst.snd.fst, y1.fst.fst.snd.snd), y2.fst.fst, ())).bind
              fun (y3 : (Bool × PUnit) × PUnit) =>
              (call (34 : Nat) s_laws_toCnf (a0, ())).bind fun (y4 : ((Int × List (List Int) × PUnit) × PUnit) × PUnit) =>
                (call (48 : Nat) s_laws_toBoolS (a1, ())).bind fun (y5 : (List Bool × PUnit) × PUnit) =>
                  (call (49 : Nat) s_impl_IsModel
                        ((y4.fst.fst.fst, y4.fst.fst.snd.fst, y4.fst.fst.snd.snd), y5.fst.fst, ())).bind
                    fun (y6 : (Bool × PUnit) × PUnit) =>
                    bif !y6.fst.fst == y3.fst.fst then some ((false, ()), ())
                    else
                      (call (34 : Nat) s_laws_toCnf (a0, ())).bind
                        fun (y7 : ((Int × List (List Int) × PUnit) × PUnit) × PUnit) =>
                        (call (36 : Nat) s_laws_eqCnf
                              ((y4.fst.fst.fst, y4.fst.fst.snd.fst, y4.fst.fst.snd.snd),
                                (y7.fst.fst.fst, y7.fst.fst.snd.fst, y7.fst.fst.snd.snd), ())).bind
                          fun (y8 : (Bool × PUnit) × PUnit) =>
                          bif !y8.fst.fst then some ((false, ()), ())
                          else
                            (call (48 : Nat) s_laws_toBoolS (a1, ())).bind fun (y9 : (List Bool × PUnit) × PUnit) =>
                              (call (50 : Nat) s_laws_eqBoolS (y5.fst.fst, y9.fst.fst, ())).bind
                                fun (y10 : (Bool × PUnit) × PUnit) =>
                                bif !y10.fst.fst then some ((false, ()), ()) else some ((true, ()), ())
def F (call : Cl) (k : Nat) (a0 : (Int × ((List (List Int)) × Unit))) (a1 : (List Bool)) : Option R := Fm call k  a0 a1
theorem F_eq (call : Cl) (k : Nat) (a0 : (Int × ((List (List Int)) × Unit))) (a1 : (List Bool)) : bodyK E call n_laws_FnExactIsModel k s_laws_FnExactIsModel (a0, a1, ()) = F call k a0 a1 := by
  kernel_rfl
end laws_FnExactIsModel
end Go.Proofs.Ytcmgjdmhemfecaa.Pf
