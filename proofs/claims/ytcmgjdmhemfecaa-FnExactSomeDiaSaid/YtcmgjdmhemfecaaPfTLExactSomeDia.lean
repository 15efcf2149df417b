/- Printed texts: what the reading of these functions is. No condition. -/
import Derived.Test.YtcmgjdmhemfecaaPvEnv
import Derived.KernelRfl
set_option linter.unusedVariables false
namespace Go.Proofs.Ytcmgjdmhemfecaa.Pf
open Go Go.Pv
/-! #### laws_FnExactSomeDia -/
namespace laws_FnExactSomeDia
abbrev R := ((Bool × Unit) × Unit)
def Fm (call : Cl) (k : Nat)  (a0 : (Int × (Int × ((List (Int × (Int × (Int × Unit)))) × Unit)))) (a1 : Int) : Option R :=
    (call (43 : Nat) s_laws_szDia (a0, (1048576 : Int), ())).bind fun (y0 : (Int × PUnit) × PUnit) =>
    bif decide (y0.fst.fst < (0 : Int)) then some ((true, ()), ())
    else
      (call (45 : Nat) s_laws_toDia (a0, ())).bind
        fun (y1 : ((Int × Int × List (Int × Int × Int × PUnit) × PUnit) × PUnit) × PUnit) =>
        (call (74 : Nat) s_spec_SomeDia
              ((y1.fst.fst.fst, y1.fst.fst.snd.fst, y1.fst.fst.snd.snd.fst, y1.fst.fst.snd.snd.snd), a1, ())).bind
          fun (y2 : ((Int × Int × List (Int × Int × Int × PUnit) × PUnit) × Bool × PUnit) × PUnit) =>
          (call (45 : Nat) s_laws_toDia (a0, ())).bind
            fun (y3 : ((Int × Int × List (Int × Int × Int × PUnit) × PUnit) × PUnit) × PUnit) =>
            (call (64 : Nat) s_impl_SomeDia
                  ((y3.fst.fst.fst, y3.fst.fst.snd.fst, y3.fst.fst.snd.snd.fst, y3.fst.fst.snd.snd.snd), a1, ())).bind
              fun (y4 : ((Int × Int × List (Int × Int × Int × PUnit) × PUnit) × Bool × PUnit) × PUnit) =>
              (call (27 : Nat) s_laws_eqDia
                    ((y4.fst.fst.fst, y4.fst.fst.snd.fst, y4.fst.fst.snd.snd.fst, y4.fst.fst.snd.snd.snd),
                      (y2.fst.fst.fst, y2.fst.fst.snd.fst, y2.fst.fst.snd.snd.fst, y2.fst.fst.snd.snd.snd), ())).bind
                fun (y5 : (Bool × PUnit) × PUnit) =>
                bif !y5.fst.fst then some ((false, ()), ())
                else
                  bif !y4.fst.snd.fst == y2.fst.snd.fst then some ((false, ()), ())
                  else
                    (call (45 : Nat) s_laws_toDia (a0, ())).bind
                      fun (y6 : ((Int × Int × List (Int × Int × Int × PUnit) × PUnit) × PUnit) × PUnit) =>
                      (call (27 : Nat) s_laws_eqDia
                            ((y3.fst.fst.fst, y3.fst.fst.snd.fst, y3.fst.fst.snd.snd.fst, y3.fst.fst.snd.snd.snd),
                              (y6.fst.fst.fst, y6.fst.fst.snd.fst, y6.fst.fst.snd.snd.fst, y6.fst.fst.snd.snd.snd),
                              ())).bind
                        fun (y7 : (Bool × PUnit) × PUnit) =>
                        bif !y7.fst.fst then some ((false, ()), ())
                        else
                          (call (28 : Nat) s_laws_markDia
                                ((y3.fst.fst.fst, y3.fst.fst.snd.fst, y3.fst.fst.snd.snd.fst, y3.fst.fst.snd.snd.snd),
                                  (1 : Int), ())).bind
                            fun (y8 : (Int × PUnit) × (Int × Int × List (Int × Int × Int × PUnit) × PUnit) × PUnit) =>
                            bif decide (y8.fst.fst < (0 : Int)) then some ((false, ()), ())
                            else
                              (call (27 : Nat) s_laws_eqDia
                                    ((y4.fst.fst.fst, y4.fst.fst.snd.fst, y4.fst.fst.snd.snd.fst, y4.fst.fst.snd.snd.snd),
                                      (y2.fst.fst.fst, y2.fst.fst.snd.fst, y2.fst.fst.snd.snd.fst,
                                        y2.fst.fst.snd.snd.snd),
                                      ())).bind
                                fun (y9 : (Bool × PUnit) × PUnit) =>
                                bif !y9.fst.fst then some ((false, ()), ())
                                else
                                  bif !y4.fst.snd.fst == y2.fst.snd.fst then some ((false, ()), ())
                                  else
                                    (call (28 : Nat) s_laws_markDia
                                          ((y4.fst.fst.fst, y4.fst.fst.snd.fst, y4.fst.fst.snd.snd.fst,
                                              y4.fst.fst.snd.snd.snd),
                                            (1 : Int), ())).bind
                                      fun
                                        (y10 :
                                          (Int × PUnit) × (Int × Int × List (Int × Int × Int × PUnit) × PUnit) × PUnit) =>
                                      (call (29 : Nat) s_laws_heldDia
                                            ((y4.fst.fst.fst, y4.fst.fst.snd.fst, y10.snd.fst.snd.snd.fst,
                                                y4.fst.fst.snd.snd.snd),
                                              (1 : Int), ())).bind
                                        fun (y11 : (Int × PUnit) × PUnit) =>
                                        bif decide (y11.fst.fst < (0 : Int)) then some ((false, ()), ())
                                        else
                                          bif y11.fst.fst != y10.fst.fst then some ((false, ()), ())
                                          else
                                            (call (45 : Nat) s_laws_toDia (a0, ())).bind
                                              fun
                                                (y12 :
                                                  ((Int × Int × List (Int × Int × Int × PUnit) × PUnit) × PUnit) ×
                                                    PUnit) =>
                                              (call (64 : Nat) s_impl_SomeDia
                                                    ((y12.fst.fst.fst, y12.fst.fst.snd.fst, y12.fst.fst.snd.snd.fst,
                                                        y12.fst.fst.snd.snd.snd),
                                                      a1, ())).bind
                                                fun
                                                  (y13 :
                                                    ((Int × Int × List (Int × Int × Int × PUnit) × PUnit) ×
                                                        Bool × PUnit) ×
                                                      PUnit) =>
                                                (call (27 : Nat) s_laws_eqDia
                                                      ((y13.fst.fst.fst, y13.fst.fst.snd.fst, y13.fst.fst.snd.snd.fst,
                                                          y13.fst.fst.snd.snd.snd),
                                                        (y2.fst.fst.fst, y2.fst.fst.snd.fst, y2.fst.fst.snd.snd.fst,
                                                          y2.fst.fst.snd.snd.snd),
                                                        ())).bind
                                                  fun (y14 : (Bool × PUnit) × PUnit) =>
                                                  bif !y14.fst.fst then some ((false, ()), ())
                                                  else
                                                    bif !y13.fst.snd.fst == y2.fst.snd.fst then some ((false, ()), ())
                                                    else
                                                      (call (29 : Nat) s_laws_heldDia
                                                            ((y4.fst.fst.fst, y4.fst.fst.snd.fst, y10.snd.fst.snd.snd.fst,
                                                                y4.fst.fst.snd.snd.snd),
                                                              (1 : Int), ())).bind
                                                        fun (y15 : (Int × PUnit) × PUnit) =>
                                                        bif decide (y15.fst.fst < (0 : Int)) then some ((false, ()), ())
                                                        else
                                                          bif y15.fst.fst != y10.fst.fst then some ((false, ()), ())
                                                          else some ((true, ()), ())
def F (call : Cl) (k : Nat) (a0 : (Int × (Int × ((List (Int × (Int × (Int × Unit)))) × Unit)))) (a1 : Int) : Option R := Fm call k  a0 a1
theorem F_eq (call : Cl) (k : Nat) (a0 : (Int × (Int × ((List (Int × (Int × (Int × Unit)))) × Unit)))) (a1 : Int) : bodyK E call n_laws_FnExactSomeDia k s_laws_FnExactSomeDia (a0, a1, ()) = F call k a0 a1 := by
  kernel_rfl
end laws_FnExactSomeDia
end Go.Proofs.Ytcmgjdmhemfecaa.Pf
