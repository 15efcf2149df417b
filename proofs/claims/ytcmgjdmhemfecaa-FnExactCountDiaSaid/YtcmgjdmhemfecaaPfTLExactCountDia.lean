/- Printed texts: what the reading of these functions is. No condition. -/
import Derived.Test.YtcmgjdmhemfecaaPvEnv
import Derived.KernelRfl
set_option linter.unusedVariables false
namespace Go.Proofs.Ytcmgjdmhemfecaa.Pf
open Go Go.Pv
/-! #### laws_FnExactCountDia -/
namespace laws_FnExactCountDia
abbrev R := ((Bool × Unit) × Unit)
def Fm (call : Cl) (k : Nat)  (a0 : (Int × (Int × ((List (Int × (Int × (Int × Unit)))) × Unit)))) : Option R :=
    (call (43 : Nat) s_laws_szDia (a0, (1048576 : Int), ())).bind fun (y0 : (Int × PUnit) × PUnit) =>
    bif decide (y0.fst.fst < (0 : Int)) then some ((true, ()), ())
    else
      (call (45 : Nat) s_laws_toDia (a0, ())).bind
        fun (y1 : ((Int × Int × List (Int × Int × Int × PUnit) × PUnit) × PUnit) × PUnit) =>
        (call (51 : Nat) s_spec_CountDia
              ((y1.fst.fst.fst, y1.fst.fst.snd.fst, y1.fst.fst.snd.snd.fst, y1.fst.fst.snd.snd.snd), ())).bind
          fun (y2 : (Int × PUnit) × PUnit) =>
          (call (45 : Nat) s_laws_toDia (a0, ())).bind
            fun (y3 : ((Int × Int × List (Int × Int × Int × PUnit) × PUnit) × PUnit) × PUnit) =>
            (call (52 : Nat) s_impl_CountDia
                  ((y3.fst.fst.fst, y3.fst.fst.snd.fst, y3.fst.fst.snd.snd.fst, y3.fst.fst.snd.snd.snd), ())).bind
              fun (y4 : (Int × PUnit) × PUnit) =>
              bif y4.fst.fst != y2.fst.fst then some ((false, ()), ())
              else
                (call (45 : Nat) s_laws_toDia (a0, ())).bind
                  fun (y5 : ((Int × Int × List (Int × Int × Int × PUnit) × PUnit) × PUnit) × PUnit) =>
                  (call (27 : Nat) s_laws_eqDia
                        ((y3.fst.fst.fst, y3.fst.fst.snd.fst, y3.fst.fst.snd.snd.fst, y3.fst.fst.snd.snd.snd),
                          (y5.fst.fst.fst, y5.fst.fst.snd.fst, y5.fst.fst.snd.snd.fst, y5.fst.fst.snd.snd.snd), ())).bind
                    fun (y6 : (Bool × PUnit) × PUnit) =>
                    bif !y6.fst.fst then some ((false, ()), ()) else some ((true, ()), ())
def F (call : Cl) (k : Nat) (a0 : (Int × (Int × ((List (Int × (Int × (Int × Unit)))) × Unit)))) : Option R := Fm call k  a0
theorem F_eq (call : Cl) (k : Nat) (a0 : (Int × (Int × ((List (Int × (Int × (Int × Unit)))) × Unit)))) : bodyK E call n_laws_FnExactCountDia k s_laws_FnExactCountDia (a0, ()) = F call k a0 := by
  kernel_rfl
end laws_FnExactCountDia
end Go.Proofs.Ytcmgjdmhemfecaa.Pf
