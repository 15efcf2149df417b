/- Printed texts: what the reading of these functions is. No condition. -/
import Derived.Test.YtcmgjdmhemfecaaPvEnv
import Derived.KernelRfl
set_option linter.unusedVariables false
namespace Go.Proofs.Ytcmgjdmhemfecaa.Pf
open Go Go.Pv
/-! #### laws_FnExactCnfOk -/
namespace laws_FnExactCnfOk
abbrev R := ((Bool × Unit) × Unit)
def Fm (call : Cl) (k : Nat)  (a0 : (Int × ((List (List Int)) × Unit))) : Option R :=
    (call (32 : Nat) s_laws_szCnf (a0, (1048576 : Int), ())).bind fun (y0 : (Int × PUnit) × PUnit) =>
    bif decide (y0.fst.fst < (0 : Int)) then some ((true, ()), ())
    else
      (call (34 : Nat) s_laws_toCnf (a0, ())).bind fun (y1 : ((Int × List (List Int) × PUnit) × PUnit) × PUnit) =>
        (call (33 : Nat) s_spec_CnfOk ((y1.fst.fst.fst, y1.fst.fst.snd.fst, y1.fst.fst.snd.snd), ())).bind
          fun (y2 : (Bool × PUnit) × PUnit) =>
          (call (34 : Nat) s_laws_toCnf (a0, ())).bind fun (y3 : ((Int × List (List Int) × PUnit) × PUnit) × PUnit) =>
            (call (35 : Nat) s_impl_CnfOk ((y3.fst.fst.fst, y3.fst.fst.snd.fst, y3.fst.fst.snd.snd), ())).bind
              fun (y4 : (Bool × PUnit) × PUnit) =>
              bif !y4.fst.fst == y2.fst.fst then some ((false, ()), ())
              else
                (call (34 : Nat) s_laws_toCnf (a0, ())).bind
                  fun (y5 : ((Int × List (List Int) × PUnit) × PUnit) × PUnit) =>
                  (call (36 : Nat) s_laws_eqCnf
                        ((y3.fst.fst.fst, y3.fst.fst.snd.fst, y3.fst.fst.snd.snd),
                          (y5.fst.fst.fst, y5.fst.fst.snd.fst, y5.fst.fst.snd.snd), ())).bind
                    fun (y6 : (Bool × PUnit) × PUnit) =>
                    bif !y6.fst.fst then some ((false, ()), ()) else some ((true, ()), ())
def F (call : Cl) (k : Nat) (a0 : (Int × ((List (List Int)) × Unit))) : Option R := Fm call k  a0
theorem F_eq (call : Cl) (k : Nat) (a0 : (Int × ((List (List Int)) × Unit))) : bodyK E call n_laws_FnExactCnfOk k s_laws_FnExactCnfOk (a0, ()) = F call k a0 := by
  kernel_rfl
end laws_FnExactCnfOk
end Go.Proofs.Ytcmgjdmhemfecaa.Pf
