/- Printed texts: what the reading of these functions is. No condition. -/
import Derived.Test.YtcmgjdmhemfecaaPvEnv
import Derived.KernelRfl
set_option linter.unusedVariables false
namespace Go.Proofs.Ytcmgjdmhemfecaa.Pf
open Go Go.Pv
/-! #### laws_FnExactCnfOk -/
namespace laws_FnExactCnfOk
abbrev R := ((Bool × Unit) × Unit)
def Fm (call : Cl) (k : Nat)  (a0 : (Int × ((List (List Int)) × Unit))) : Option R :=
  (call (32 : Nat) s_laws_szCnf (a0, (1048576 : Int), ())).bind fun (y0 : (Int × PUnit) × PUnit) =>
  bif decide (y0.fst.fst < (0 : Int)) then some ((true, ()), ())
  else
    (call (34 : Nat) s_laws_toCnf (a0, ())).bind fun (y1 : ((Int × List (List Int) × PUnit) × PUnit) × PUnit) =>
      (call (33 : Nat) s_spec_CnfOk ((y1.fst.fst.fst, y1.fst.fst.snd.fst, y1.fst.fst.snd.snd), ())).bind
        fun (y2 : (Bool × PUnit) × PUnit) =>
        (call (34 : Nat) s_laws_toCnf (a0, ())).bind fun (y3 : ((Int × List (List Int) × PUnit) × PUnit) × PUnit) =>
          (call (35 : Nat) s_impl_CnfOk ((y3.fst.fst.fst, y3.fst.fst.snd.fst, y3.fst.fst.snd.snd), ())).bind
            fun (y4 : (Bool × PUnit) × PUnit) =>
            bif !y4.fst.fst == y2.fst.fst then some ((false, ()), ())
            else
              (call (34 : Nat) s_laws_toCnf (a0, ())).bind
                fun (y5 : ((Int × List (List Int) × PUnit) × PUnit) × PUnit) =>
                (call (36 : Nat) s_laws_eqCnf
                      ((y3.fst.fst.fst, y3.fst.fst.snd.fst, y3.fst.fst.snd.snd),
                        (y5.fst.fst.fst, y5.fst.fst.snd.fst, y5.fst.fst.snd.snd), ())).bind
                  fun (y6 : (Bool × PUnit) × PUnit) =>
                  bif !y6.fst.fst then some ((false, ()), ()) else some ((true, ()), ())
def F (call : Cl) (k : Nat) (a0 : (Int × ((List (List Int)) × Unit))) : Option R := Fm call k  a0
theorem F_eq (call : Cl) (k : Nat) (a0 : (Int × ((List (List Int)) × Unit))) : bodyK E call n_laws_FnExactCnfOk k s_laws_FnExactCnfOk (a0, ()) = F call k a0 := by
  kernel_rfl
end laws_FnExactCnfOk
/-! #### laws_FnExactUsedIn -/
namespace laws_FnExactUsedIn
abbrev R := ((Bool × Unit) × Unit)
def Fm (call : Cl) (k : Nat)  (a0 : (Int × ((List (List Int)) × Unit))) : Option R :=
  (call (32 : Nat) s_laws_szCnf (a0, (1048576 : Int), ())).bind fun (y0 : (Int × PUnit) × PUnit) =>
  bif decide (y0.fst.fst < (0 : Int)) then some ((true, ()), ())
  else
    (call (34 : Nat) s_laws_toCnf (a0, ())).bind fun (y1 : ((Int × List (List Int) × PUnit) × PUnit) × PUnit) =>
      (call (37 : Nat) s_spec_UsedIn ((y1.fst.fst.fst, y1.fst.fst.snd.fst, y1.fst.fst.snd.snd), ())).bind
        fun (y2 : (List Int × PUnit) × PUnit) =>
        (call (34 : Nat) s_laws_toCnf (a0, ())).bind fun (y3 : ((Int × List (List Int) × PUnit) × PUnit) × PUnit) =>
          (call (38 : Nat) s_impl_UsedIn ((y3.fst.fst.fst, y3.fst.fst.snd.fst, y3.fst.fst.snd.snd), ())).bind
            fun (y4 : (List Int × PUnit) × PUnit) =>
            (call (39 : Nat) s_laws_eqInt64S (y4.fst.fst, y2.fst.fst, ())).bind fun (y5 : (Bool × PUnit) × PUnit) =>
              bif !y5.fst.fst then some ((false, ()), ())
              else
                (call (34 : Nat) s_laws_toCnf (a0, ())).bind
                  fun (y6 : ((Int × List (List Int) × PUnit) × PUnit) × PUnit) =>
                  (call (36 : Nat) s_laws_eqCnf
                        ((y3.fst.fst.fst, y3.fst.fst.snd.fst, y3.fst.fst.snd.snd),
                          (y6.fst.fst.fst, y6.fst.fst.snd.fst, y6.fst.fst.snd.snd), ())).bind
                    fun (y7 : (Bool × PUnit) × PUnit) =>
                    bif !y7.fst.fst then some ((false, ()), ())
                    else
                      (call (40 : Nat) s_laws_markCnf
                            ((y3.fst.fst.fst, y3.fst.fst.snd.fst, y3.fst.fst.snd.snd), (1 : Int), ())).bind
                        fun (y8 : (Int × PUnit) × (Int × List (List Int) × PUnit) × PUnit) =>
                        bif decide (y8.fst.fst < (0 : Int)) then some ((false, ()), ())
                        else
                          (call (39 : Nat) s_laws_eqInt64S (y4.fst.fst, y2.fst.fst, ())).bind
                            fun (y9 : (Bool × PUnit) × PUnit) =>
                            bif !y9.fst.fst then some ((false, ()), ())
                            else
                              (call (41 : Nat) s_laws_markInt64S (y4.fst.fst, (1 : Int), ())).bind
                                fun (y10 : (Int × PUnit) × List Int × PUnit) =>
                                (call (42 : Nat) s_laws_heldInt64S (y10.snd.fst, (1 : Int), ())).bind
                                  fun (y11 : (Int × PUnit) × PUnit) =>
                                  bif decide (y11.fst.fst < (0 : Int)) then some ((false, ()), ())
                                  else
                                    bif y11.fst.fst != y10.fst.fst then some ((false, ()), ())
                                    else
                                      (call (34 : Nat) s_laws_toCnf (a0, ())).bind
                                        fun (y12 : ((Int × List (List Int) × PUnit) × PUnit) × PUnit) =>
                                        (call (38 : Nat) s_impl_UsedIn
                                              ((y12.fst.fst.fst, y12.fst.fst.snd.fst, y12.fst.fst.snd.snd), ())).bind
                                          fun (y13 : (List Int × PUnit) × PUnit) =>
                                          (call (39 : Nat) s_laws_eqInt64S (y13.fst.fst, y2.fst.fst, ())).bind
                                            fun (y14 : (Bool × PUnit) × PUnit) =>
                                            bif !y14.fst.fst then some ((false, ()), ())
                                            else
                                              (call (42 : Nat) s_laws_heldInt64S (y10.snd.fst, (1 : Int), ())).bind
                                                fun (y15 : (Int × PUnit) × PUnit) =>
                                                bif decide (y15.fst.fst < (0 : Int)) then some ((false, ()), ())
                                                else
                                                  bif y15.fst.fst != y10.fst.fst then some ((false, ()), ())
                                                  else some ((true, ()), ())
def F (call : Cl) (k : Nat) (a0 : (Int × ((List (List Int)) × Unit))) : Option R := Fm call k  a0
theorem F_eq (call : Cl) (k : Nat) (a0 : (Int × ((List (List Int)) × Unit))) : bodyK E call n_laws_FnExactUsedIn k s_laws_FnExactUsedIn (a0, ()) = F call k a0 := by
  kernel_rfl
end laws_FnExactUsedIn
/-! #### laws_FnExactIsModel -/
namespace laws_FnExactIsModel
abbrev R := ((Bool × Unit) × Unit)
def Fm (call : Cl) (k : Nat)  (a0 : (Int × ((List (List Int)) × Unit))) (a1 : (List Bool)) : Option R :=
  bif decide ((↑a1.length : Int) > (1048576 : Int)) then some ((true, ()), ())
else
  (call (32 : Nat) s_laws_szCnf (a0, (1048576 : Int), ())).bind fun (y0 : (Int × PUnit) × PUnit) =>
    bif decide (y0.fst.fst < (0 : Int)) then some ((true, ()), ())
    else
      (call (34 : Nat) s_laws_toCnf (a0, ())).bind fun (y1 : ((Int × List (List Int) × PUnit) × PUnit) × PUnit) =>
        (call (48 : Nat) s_laws_toBoolS (a1, ())).bind fun (y2 : (List Bool × PUnit) × PUnit) =>
          (call (47 : Nat) s_spec_IsModel
                ((y1.fst.fst.fst, y1.fst.fst.snd.fst, y1.fst.fst.snd.snd), y2.fst.fst, ())).bind
            fun (y3 : (Bool × PUnit) × PUnit) =>
            (call (34 : Nat) s_laws_toCnf (a0, ())).bind fun (y4 : ((Int × List (List Int) × PUnit) × PUnit) × PUnit) =>
              (call (48 : Nat) s_laws_toBoolS (a1, ())).bind fun (y5 : (List Bool × PUnit) × PUnit) =>
                (call (49 : Nat) s_impl_IsModel
                      ((y4.fst.fst.fst, y4.fst.fst.snd.fst, y4.fst.fst.snd.snd), y5.fst.fst, ())).bind
                  fun (y6 : (Bool × PUnit) × PUnit) =>
                  bif !y6.fst.fst == y3.fst.fst then some ((false, ()), ())
                  else
                    (call (34 : Nat) s_laws_toCnf (a0, ())).bind
                      fun (y7 : ((Int × List (List Int) × PUnit) × PUnit) × PUnit) =>
                      (call (36 : Nat) s_laws_eqCnf
                            ((y4.fst.fst.fst, y4.fst.fst.snd.fst, y4.fst.fst.snd.snd),
                              (y7.fst.fst.fst, y7.fst.fst.snd.fst, y7.fst.fst.snd.snd), ())).bind
                        fun (y8 : (Bool × PUnit) × PUnit) =>
                        bif !y8.fst.fst then some ((false, ()), ())
                        else
                          (call (48 : Nat) s_laws_toBoolS (a1, ())).bind fun (y9 : (List Bool × PUnit) × PUnit) =>
                            (call (50 : Nat) s_laws_eqBoolS (y5.fst.fst, y9.fst.fst, ())).bind
                              fun (y10 : (Bool × PUnit) × PUnit) =>
                              bif !y10.fst.fst then some ((false, ()), ()) else some ((true, ()), ())
def F (call : Cl) (k : Nat) (a0 : (Int × ((List (List Int)) × Unit))) (a1 : (List Bool)) : Option R := Fm call k  a0 a1
theorem F_eq (call : Cl) (k : Nat) (a0 : (Int × ((List (List Int)) × Unit))) (a1 : (List Bool)) : bodyK E call n_laws_FnExactIsModel k s_laws_FnExactIsModel (a0, a1, ()) = F call k a0 a1 := by
  kernel_rfl
end laws_FnExactIsModel
end Go.Proofs.Ytcmgjdmhemfecaa.Pf
