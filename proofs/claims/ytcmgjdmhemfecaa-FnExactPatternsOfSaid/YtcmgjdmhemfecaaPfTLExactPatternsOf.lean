/- Printed texts: what the reading of these functions is. No condition. -/
import Derived.Test.YtcmgjdmhemfecaaPvEnv
import Derived.KernelRfl
set_option linter.unusedVariables false
namespace Go.Proofs.Ytcmgjdmhemfecaa.Pf
open Go Go.Pv
/-! #### laws_FnExactPatternsOf -/
namespace laws_FnExactPatternsOf
abbrev R := ((Bool × Unit) × Unit)
def Fm (call : Cl) (k : Nat)  (a0 : (Int × ((List (List Int)) × Unit))) (a1 : (List Int)) : Option R :=
    bif decide ((↑a1.length : Int) > (1048576 : Int)) then some ((true, ()), ())
  else
    (call (32 : Nat) s_laws_szCnf (a0, (1048576 : Int), ())).bind fun (y0 : (Int × PUnit) × PUnit) =>
      bif decide (y0.fst.fst < (0 : Int)) then some ((true, ()), ())
      else
        (call (34 : Nat) s_laws_toCnf (a0, ())).bind fun (y1 : ((Int × List (List Int) × PUnit) × PUnit) × PUnit) =>
          (call (81 : Nat) s_laws_toInt64S (a1, ())).bind fun (y2 : (List Int × PUnit) × PUnit) =>
            (call (80 : Nat) s_spec_PatternsOf
                  ((y1.fst.fst.fst, y1.fst.fst.snd.fst, y1.fst.fst.snd.snd), y2.fst.fst, ())).bind
              fun (y3 : (List Int × PUnit) × PUnit) =>
              (call (34 : Nat) s_laws_toCnf (a0, ())).bind fun (y4 : ((Int × List (List Int) × PUnit) × PUnit) × PUnit) =>
                (call (81 : Nat) s_laws_toInt64S (a1, ())).bind fun (y5 : (List Int × PUnit) × PUnit) =>
                  (call (82 : Nat) s_impl_PatternsOf
                        ((y4.fst.fst.fst, y4.fst.fst.snd.fst, y4.fst.fst.snd.snd), y5.fst.fst, ())).bind
                    fun (y6 : (List Int × PUnit) × PUnit) =>
                    (call (39 : Nat) s_laws_eqInt64S (y6.fst.fst, y3.fst.fst, ())).bind
                      fun (y7 : (Bool × PUnit) × PUnit) =>
                      bif !y7.fst.fst then some ((false, ()), ())
                      else
                        (call (34 : Nat) s_laws_toCnf (a0, ())).bind
                          fun (y8 : ((Int × List (List Int) × PUnit) × PUnit) × PUnit) =>
                          (call (36 : Nat) s_laws_eqCnf
                                ((y4.fst.fst.fst, y4.fst.fst.snd.fst, y4.fst.fst.snd.snd),
                                  (y8.fst.fst.fst, y8.fst.fst.snd.fst, y8.fst.fst.snd.snd), ())).bind
                            fun (y9 : (Bool × PUnit) × PUnit) =>
                            bif !y9.fst.fst then some ((false, ()), ())
                            else
                              (call (81 : Nat) s_laws_toInt64S (a1, ())).bind fun (y10 : (List Int × PUnit) × PUnit) =>
                                (call (39 : Nat) s_laws_eqInt64S (y5.fst.fst, y10.fst.fst, ())).bind
                                  fun (y11 : (Bool × PUnit) × PUnit) =>
                                  bif !y11.fst.fst then some ((false, ()), ())
                                  else
                                    (call (40 : Nat) s_laws_markCnf
                                          ((y4.fst.fst.fst, y4.fst.fst.snd.fst, y4.fst.fst.snd.snd), (1 : Int), ())).bind
                                      fun (y12 : (Int × PUnit) × (Int × List (List Int) × PUnit) × PUnit) =>
                                      (call (41 : Nat) s_laws_markInt64S (y5.fst.fst, y12.fst.fst, ())).bind
                                        fun (y13 : (Int × PUnit) × List Int × PUnit) =>
                                        bif decide (y13.fst.fst < (0 : Int)) then some ((false, ()), ())
                                        else
                                          (call (39 : Nat) s_laws_eqInt64S (y6.fst.fst, y3.fst.fst, ())).bind
                                            fun (y14 : (Bool × PUnit) × PUnit) =>
                                            bif !y14.fst.fst then some ((false, ()), ())
                                            else
                                              (call (41 : Nat) s_laws_markInt64S (y6.fst.fst, (1 : Int), ())).bind
                                                fun (y15 : (Int × PUnit) × List Int × PUnit) =>
                                                (call (42 : Nat) s_laws_heldInt64S (y15.snd.fst, (1 : Int), ())).bind
                                                  fun (y16 : (Int × PUnit) × PUnit) =>
                                                  bif decide (y16.fst.fst < (0 : Int)) then some ((false, ()), ())
                                                  else
                                                    bif y16.fst.fst != y15.fst.fst then some ((false, ()), ())
                                                    else
                                                      (call (34 : Nat) s_laws_toCnf (a0, ())).bind
                                                        fun (y17 : ((Int × List (List Int) × PUnit) × PUnit) × PUnit) =>
                                                        (call (81 : Nat) s_laws_toInt64S (a1, ())).bind
                                                          fun (y18 : (List Int × PUnit) × PUnit) =>
                                                          (call (82 : Nat) s_impl_PatternsOf
                                                                ((y17.fst.fst.fst, y17.fst.fst.snd.fst,
                                                                    y17.fst.fst.snd.snd),
                                                                  y18.fst.fst, ())).bind
                                                            fun (y19 : (List Int × PUnit) × PUnit) =>
                                                            (call (39 : Nat) s_laws_eqInt64S
                                                                  (y19.fst.fst, y3.fst.fst, ())).bind
                                                              fun (y20 : (Bool × PUnit) × PUnit) =>
                                                              bif !y20.fst.fst then some ((false, ()), ())
                                                              else
                                                                (call (42 : Nat) s_laws_heldInt64S
                                                                      (y15.snd.fst, (1 : Int), ())).bind
                                                                  fun (y21 : (Int × PUnit) × PUnit) =>
                                                                  bif decide (y21.fst.fst < (0 : Int)) then
                                                                    some ((false, ()), ())
                                                                  else
                                                                    bif y21.fst.fst != y15.fst.fst then
                                                                      some ((false, ()), ())
                                                                    else some ((true, ()), ())
def F (call : Cl) (k : Nat) (a0 : (Int × ((List (List Int)) × Unit))) (a1 : (List Int)) : Option R := Fm call k  a0 a1
theorem F_eq (call : Cl) (k : Nat) (a0 : (Int × ((List (List Int)) × Unit))) (a1 : (List Int)) : bodyK E call n_laws_FnExactPatternsOf k s_laws_FnExactPatternsOf (a0, a1, ()) = F call k a0 a1 := by
  kernel_rfl
end laws_FnExactPatternsOf
end Go.Proofs.Ytcmgjdmhemfecaa.Pf
