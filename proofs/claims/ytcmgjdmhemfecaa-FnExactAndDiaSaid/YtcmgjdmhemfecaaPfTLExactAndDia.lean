/- Printed texts: what the reading of these functions is. No condition. -/
import Derived.Test.YtcmgjdmhemfecaaPvEnv
import Derived.KernelRfl
set_option linter.unusedVariables false
namespace Go.Proofs.Ytcmgjdmhemfecaa.Pf
open Go Go.Pv
/-! #### laws_FnExactAndDia -/
namespace laws_FnExactAndDia
abbrev R := ((Bool × Unit) × Unit)
def Fm (call : Cl) (k : Nat)  (a0 : (Int × (Int × ((List (Int × (Int × (Int × Unit)))) × Unit)))) (a1 : (Int × (Int × ((List (Int × (Int × (Int × Unit)))) × Unit)))) : Option R :=
    (call (43 : Nat) s_laws_szDia (a0, (1048576 : Int), ())).bind fun (y0 : (Int × PUnit) × PUnit) =>
    bif decide (y0.fst.fst < (0 : Int)) then some ((true, ()), ())
    else
      (call (43 : Nat) s_laws_szDia (a1, y0.fst.fst, ())).bind fun (y1 : (Int × PUnit) × PUnit) =>
        bif decide (y1.fst.fst < (0 : Int)) then some ((true, ()), ())
        else
          (call (45 : Nat) s_laws_toDia (a0, ())).bind
            fun (y2 : ((Int × Int × List (Int × Int × Int × PUnit) × PUnit) × PUnit) × PUnit) =>
            (call (45 : Nat) s_laws_toDia (a1, ())).bind
              fun (y3 : ((Int × Int × List (Int × Int × Int × PUnit) × PUnit) × PUnit) × PUnit) =>
              (call (67 : Nat) s_spec_AndDia
                    ((y2.fst.fst.fst, y2.fst.fst.snd.fst, y2.fst.fst.snd.snd.fst, y2.fst.fst.snd.snd.snd),
                      (y3.fst.fst.fst, y3.fst.fst.snd.fst, y3.fst.fst.snd.snd.fst, y3.fst.fst.snd.snd.snd), ())).bind
                fun (y4 : ((Int × Int × List (Int × Int × Int × PUnit) × PUnit) × Bool × PUnit) × PUnit) =>
                (call (45 : Nat) s_laws_toDia (a0, ())).bind
                  fun (y5 : ((Int × Int × List (Int × Int × Int × PUnit) × PUnit) × PUnit) × PUnit) =>
                  (call (45 : Nat) s_laws_toDia (a1, ())).bind
                    fun (y6 : ((Int × Int × List (Int × Int × Int × PUnit) × PUnit) × PUnit) × PUnit) =>
                    (call (58 : Nat) s_impl_AndDia
                          ((y5.fst.fst.fst, y5.fst.fst.snd.fst, y5.fst.fst.snd.snd.fst, y5.fst.fst.snd.snd.snd),
                            (y6.fst.fst.fst, y6.fst.fst.snd.fst, y6.fst.fst.snd.snd.fst, y6.fst.fst.snd.snd.snd),
                            ())).bind
                      fun (y7 : ((Int × Int × List (Int × Int × Int × PUnit) × PUnit) × Bool × PUnit) × PUnit) =>
                      (call (27 : Nat) s_laws_eqDia
                            ((y7.fst.fst.fst, y7.fst.fst.snd.fst, y7.fst.fst.snd.snd.fst, y7.fst.fst.snd.snd.snd),
                              (y4.fst.fst.fst, y4.fst.fst.snd.fst, y4.fst.fst.snd.snd.fst, y4.fst.fst.snd.snd.snd),
                              ())).bind
                        fun (y8 : (Bool × PUnit) × PUnit) =>
                        bif !y8.fst.fst then some ((false, ()), ())
                        else
                          bif !y7.fst.snd.fst == y4.fst.snd.fst then some ((false, ()), ())
                          else
                            (call (45 : Nat) s_laws_toDia (a0, ())).bind
                              fun (y9 : ((Int × Int × List (Int × Int × Int × PUnit) × PUnit) × PUnit) × PUnit) =>
                              (call (27 : Nat) s_laws_eqDia
                                    ((y5.fst.fst.fst, y5.fst.fst.snd.fst, y5.fst.fst.snd.snd.fst, y5.fst.fst.snd.snd.snd),
                                      (y9.fst.fst.fst, y9.fst.fst.snd.fst, y9.fst.fst.snd.snd.fst,
                                        y9.fst.fst.snd.snd.snd),
                                      ())).bind
                                fun (y10 : (Bool × PUnit) × PUnit) =>
                                bif !y10.fst.fst then some ((false, ()), ())
                                else
                                  (call (45 : Nat) s_laws_toDia (a1, ())).bind
                                    fun (y11 : ((Int × Int × List (Int × Int × Int × PUnit) × PUnit) × PUnit) × PUnit) =>
                                    (call (27 : Nat) s_laws_eqDia
                                          ((y6.fst.fst.fst, y6.fst.fst.snd.fst, y6.fst.fst.snd.snd.fst,
                                              y6.fst.fst.snd.snd.snd),
                                            (y11.fst.fst.fst, y11.fst.fst.snd.fst, y11.fst.fst.snd.snd.fst,
                                              y11.fst.fst.snd.snd.snd),
                                            ())).bind
                                      fun (y12 : (Bool × PUnit) × PUnit) =>
                                      bif !y12.fst.fst then some ((false, ()), ())
                                      else
                                        (call (28 : Nat) s_laws_markDia
                                              ((y5.fst.fst.fst, y5.fst.fst.snd.fst, y5.fst.fst.snd.snd.fst,
                                                  y5.fst.fst.snd.snd.snd),
                                                (1 : Int), ())).bind
                                          fun
                                            (y13 :
                                              (Int × PUnit) ×
                                                (Int × Int × List (Int × Int × Int × PUnit) × PUnit) × PUnit) =>
                                          (call (28 : Nat) s_laws_markDia
                                                ((y6.fst.fst.fst, y6.fst.fst.snd.fst, y6.fst.fst.snd.snd.fst,
                                                    y6.fst.fst.snd.snd.snd),
                                                  y13.fst.fst, ())).bind
                                            fun
                                              (y14 :
                                                (Int × PUnit) ×
                                                  (Int × Int × List (Int × Int × Int × PUnit) × PUnit) × PUnit) =>
                                            bif decide (y14.fst.fst < (0 : Int)) then some ((false, ()), ())
                                            else
                                              (call (27 : Nat) s_laws_eqDia
                                                    ((y7.fst.fst.fst, y7.fst.fst.snd.fst, y7.fst.fst.snd.snd.fst,
                                                        y7.fst.fst.snd.snd.snd),
                                                      (y4.fst.fst.fst, y4.fst.fst.snd.fst, y4.fst.fst.snd.snd.fst,
                                                        y4.fst.fst.snd.snd.snd),
                                                      ())).bind
                                                fun (y15 : (Bool × PUnit) × PUnit) =>
                                                bif !y15.fst.fst then some ((false, ()), ())
                                                else
                                                  bif !y7.fst.snd.fst == y4.fst.snd.fst then some ((false, ()), ())
                                                  else
                                                    (call (28 : Nat) s_laws_markDia
                                                          ((y7.fst.fst.fst, y7.fst.fst.snd.fst, y7.fst.fst.snd.snd.fst,
                                                              y7.fst.fst.snd.snd.snd),
                                                            (1 : Int), ())).bind
                                                      fun
                                                        (y16 :
                                                          (Int × PUnit) ×
                                                            (Int × Int × List (Int × Int × Int × PUnit) × PUnit) ×
                                                              PUnit) =>
                                                      (call (29 : Nat) s_laws_heldDia
                                                            ((y7.fst.fst.fst, y7.fst.fst.snd.fst, y16.snd.fst.snd.snd.fst,
                                                                y7.fst.fst.snd.snd.snd),
                                                              (1 : Int), ())).bind
                                                        fun (y17 : (Int × PUnit) × PUnit) =>
                                                        bif decide (y17.fst.fst < (0 : Int)) then some ((false, ()), ())
                                                        else
                                                          bif y17.fst.fst != y16.fst.fst then some ((false, ()), ())
                                                          else
                                                            (call (45 : Nat) s_laws_toDia (a0, ())).bind
                                                              fun
                                                                (y18 :
                                                                  ((Int × Int × List (Int × Int × Int × PUnit) × PUnit) ×
                                                                      PUnit) ×
                                                                    PUnit) =>
                                                              (call (45 : Nat) s_laws_toDia (a1, ())).bind
                                                                fun
                                                                  (y19 :
                                                                    ((Int ×
                                                                          Int × List (Int × Int × Int × PUnit) × PUnit) ×
                                                                        PUnit) ×
                                                                      PUnit) =>
                                                                (call (58 : Nat) s_impl_AndDia
                                                                      ((y18.fst.fst.fst, y18.fst.fst.snd.fst,
                                                                          y18.fst.fst.snd.snd.fst,
                                                                          y18.fst.fst.snd.snd.snd),
                                                                        (y19.fst.fst.fst, y19.fst.fst.snd.fst,
                                                                          y19.fst.fst.snd.snd.fst,
                                                                          y19.fst.fst.snd.snd.snd),
                                                                        ())).bind
                                                                  fun
                                                                    (y20 :
                                                                      ((Int ×
                                                                            Int ×
                                                                              List (Int × Int × Int × PUnit) × PUnit) ×
                                                                          Bool × PUnit) ×
                                                                        PUnit) =>
                                                                  (call (27 : Nat) s_laws_eqDia
                                                                        ((y20.fst.fst.fst, y20.fst.fst.snd.fst,
                                                                            y20.fst.fst.snd.snd.fst,
                                                                            y20.fst.fst.snd.snd.snd),
                                                                          (y4.fst.fst.fst, y4.fst.fst.snd.fst,
                                                                            y4.fst.fst.snd.snd.fst,
                                                                            y4.fst.fst.snd.snd.snd),
                                                                          ())).bind
                                                                    fun (y21 : (Bool × PUnit) × PUnit) =>
                                                                    bif !y21.fst.fst then some ((false, ()), ())
                                                                    else
                                                                      bif !y20.fst.snd.fst == y4.fst.snd.fst then
                                                                        some ((false, ()), ())
                                                                      else
                                                                        (call (29 : Nat) s_laws_heldDia
                                                                              ((y7.fst.fst.fst, y7.fst.fst.snd.fst,
                                                                                  y16.snd.fst.snd.snd.fst,
                                                                                  y7.fst.fst.snd.snd.snd),
                                                                                (1 : Int), ())).bind
                                                                          fun (y22 : (Int × PUnit) × PUnit) =>
                                                                          bif decide (y22.fst.fst < (0 : Int)) then
                                                                            some ((false, ()), ())
                                                                          else
                                                                            bif y22.fst.fst != y16.fst.fst then
                                                                              some ((false, ()), ())
                                                                            else some ((true, ()), ())
def F (call : Cl) (k : Nat) (a0 : (Int × (Int × ((List (Int × (Int × (Int × Unit)))) × Unit)))) (a1 : (Int × (Int × ((List (Int × (Int × (Int × Unit)))) × Unit)))) : Option R := Fm call k  a0 a1
theorem F_eq (call : Cl) (k : Nat) (a0 : (Int × (Int × ((List (Int × (Int × (Int × Unit)))) × Unit)))) (a1 : (Int × (Int × ((List (Int × (Int × (Int × Unit)))) × Unit)))) : bodyK E call n_laws_FnExactAndDia k s_laws_FnExactAndDia (a0, a1, ()) = F call k a0 a1 := by
  kernel_rfl
end laws_FnExactAndDia
end Go.Proofs.Ytcmgjdmhemfecaa.Pf
