/- Printed texts: what the reading of these functions is. No condition. -/
import Derived.Test.YtcmgjdmhemfecaaPvEnv
import Derived.KernelRfl
set_option linter.unusedVariables false
namespace Go.Proofs.Ytcmgjdmhemfecaa.Pf
open Go Go.Pv
/-! #### laws_FnExactYesIn -/
namespace laws_FnExactYesIn
abbrev R := ((Bool × Unit) × Unit)
def Fm (call : Cl) (k : Nat)  (a0 : (Int × (Int × ((List (Int × (Int × (Int × Unit)))) × Unit)))) (a1 : (List Bool)) : Option R :=
    bif decide ((↑a1.length : Int) > (1048576 : Int)) then some ((true, ()), ())
  else
    (call (43 : Nat) s_laws_szDia (a0, (1048576 : Int), ())).bind fun (y0 : (Int × PUnit) × PUnit) =>
      bif decide (y0.fst.fst < (0 : Int)) then some ((true, ()), ())
      else
        (call (45 : Nat) s_laws_toDia (a0, ())).bind
          fun (y1 : ((Int × Int × List (Int × Int × Int × PUnit) × PUnit) × PUnit) × PUnit) =>
          (call (48 : Nat) s_laws_toBoolS (a1, ())).bind fun (y2 : (List Bool × PUnit) × PUnit) =>
            (call (62 : Nat) s_spec_YesIn
                  ((y1.fst.fst.fst, y1.fst.fst.snd.fst, y1.fst.fst.snd.snd.fst, y1.fst.fst.snd.snd.snd), y2.fst.fst,
                    ())).bind
              fun (y3 : (Bool × PUnit) × PUnit) =>
              (call (45 : Nat) s_laws_toDia (a0, ())).bind
                fun (y4 : ((Int × Int × List (Int × Int × Int × PUnit) × PUnit) × PUnit) × PUnit) =>
                (call (48 : Nat) s_laws_toBoolS (a1, ())).bind fun (y5 : (List Bool × PUnit) × PUnit) =>
                  (call (63 : Nat) s_impl_YesIn
                        ((y4.fst.fst.fst, y4.fst.fst.snd.fst, y4.fst.fst.snd.snd.fst, y4.fst.fst.snd.snd.snd), y5.fst.fst,
                          ())).bind
                    fun (y6 : (Bool × PUnit) × PUnit) =>
                    bif !y6.fst.fst == y3.fst.fst then some ((false, ()), ())
                    else
                      (call (45 : Nat) s_laws_toDia (a0, ())).bind
                        fun (y7 : ((Int × Int × List (Int × Int × Int × PUnit) × PUnit) × PUnit) × PUnit) =>
                        (call (27 : Nat) s_laws_eqDia
                              ((y4.fst.fst.fst, y4.fst.fst.snd.fst, y4.fst.fst.snd.snd.fst, y4.fst.fst.snd.snd.snd),
                                (y7.fst.fst.fst, y7.fst.fst.snd.fst, y7.fst.fst.snd.snd.fst, y7.fst.fst.snd.snd.snd),
                                ())).bind
                          fun (y8 : (Bool × PUnit) × PUnit) =>
                          bif !y8.fst.fst then some ((false, ()), ())
                          else
                            (call (48 : Nat) s_laws_toBoolS (a1, ())).bind fun (y9 : (List Bool × PUnit) × PUnit) =>
                              (call (50 : Nat) s_laws_eqBoolS (y5.fst.fst, y9.fst.fst, ())).bind
                                fun (y10 : (Bool × PUnit) × PUnit) =>
                                bif !y10.fst.fst then some ((false, ()), ()) else some ((true, ()), ())
def F (call : Cl) (k : Nat) (a0 : (Int × (Int × ((List (Int × (Int × (Int × Unit)))) × Unit)))) (a1 : (List Bool)) : Option R := Fm call k  a0 a1
theorem F_eq (call : Cl) (k : Nat) (a0 : (Int × (Int × ((List (Int × (Int × (Int × Unit)))) × Unit)))) (a1 : (List Bool)) : bodyK E call n_laws_FnExactYesIn k s_laws_FnExactYesIn (a0, a1, ()) = F call k a0 a1 := by
  kernel_rfl
end laws_FnExactYesIn
end Go.Proofs.Ytcmgjdmhemfecaa.Pf
