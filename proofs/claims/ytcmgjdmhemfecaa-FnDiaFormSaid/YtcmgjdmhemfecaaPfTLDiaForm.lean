/- Printed texts: what the reading of these functions is. No condition. -/
import Derived.Test.YtcmgjdmhemfecaaPvEnv
import Derived.KernelRfl
set_option linter.unusedVariables false
namespace Go.Proofs.Ytcmgjdmhemfecaa.Pf
open Go Go.Pv
/-! #### laws_FnDiaForm -/
namespace laws_FnDiaForm
abbrev R := ((Bool × Unit) × Unit)
def Fm (call : Cl) (k : Nat)  (a0 : (List Int)) : Option R :=
    (call (53 : Nat) s_laws_big (a0, ())).bind fun (y0 : (Bool × PUnit) × PUnit) =>
    bif y0.fst.fst then some ((true, ()), ())
    else
      (call (54 : Nat) s_laws_roll (a0, (21 : Int), ())).bind
        fun (y1 : ((List Int × Int × Int × PUnit) × PUnit) × PUnit) =>
        (call (55 : Nat) s_laws_dice_below
              ((y1.fst.fst.fst, y1.fst.fst.snd.fst, y1.fst.fst.snd.snd.fst, y1.fst.fst.snd.snd.snd), (5 : Int), ())).bind
          fun (y2 : (Int × PUnit) × (List Int × Int × Int × PUnit) × PUnit) =>
          (call (55 : Nat) s_laws_dice_below
                ((y2.snd.fst.fst, y2.snd.fst.snd.fst, y2.snd.fst.snd.snd.fst, y2.snd.fst.snd.snd.snd), (8 : Int),
                  ())).bind
            fun (y3 : (Int × PUnit) × (List Int × Int × Int × PUnit) × PUnit) =>
            (call (56 : Nat) s_laws_picture
                  ((y3.snd.fst.fst, y3.snd.fst.snd.fst, y3.snd.fst.snd.snd.fst, y3.snd.fst.snd.snd.snd),
                    IntKind.i64.wrap ((1 : Int) + y2.fst.fst), y3.fst.fst, ())).bind
              fun
                (y4 :
                  ((Int × Int × List (Int × Int × Int × PUnit) × PUnit) × PUnit) ×
                    (List Int × Int × Int × PUnit) × PUnit) =>
              (call (55 : Nat) s_laws_dice_below
                    ((y4.snd.fst.fst, y4.snd.fst.snd.fst, y4.snd.fst.snd.snd.fst, y4.snd.fst.snd.snd.snd), (8 : Int),
                      ())).bind
                fun (y5 : (Int × PUnit) × (List Int × Int × Int × PUnit) × PUnit) =>
                (call (56 : Nat) s_laws_picture
                      ((y5.snd.fst.fst, y5.snd.fst.snd.fst, y5.snd.fst.snd.snd.fst, y5.snd.fst.snd.snd.snd),
                        IntKind.i64.wrap ((1 : Int) + y2.fst.fst), y5.fst.fst, ())).bind
                  fun
                    (y6 :
                      ((Int × Int × List (Int × Int × Int × PUnit) × PUnit) × PUnit) ×
                        (List Int × Int × Int × PUnit) × PUnit) =>
                  (call (55 : Nat) s_laws_dice_below
                        ((y6.snd.fst.fst, y6.snd.fst.snd.fst, y6.snd.fst.snd.snd.fst, y6.snd.fst.snd.snd.snd),
                          IntKind.i64.wrap ((1 : Int) + y2.fst.fst), ())).bind
                    fun (y7 : (Int × PUnit) × (List Int × Int × Int × PUnit) × PUnit) =>
                    (call (57 : Nat) s_impl_OrDia
                          ((y4.fst.fst.fst, y4.fst.fst.snd.fst, y4.fst.fst.snd.snd.fst, y4.fst.fst.snd.snd.snd),
                            (y6.fst.fst.fst, y6.fst.fst.snd.fst, y6.fst.fst.snd.snd.fst, y6.fst.fst.snd.snd.snd),
                            ())).bind
                      fun (y8 : ((Int × Int × List (Int × Int × Int × PUnit) × PUnit) × Bool × PUnit) × PUnit) =>
                      (call (59 : Nat) s_impl_NotDia
                            ((y4.fst.fst.fst, y4.fst.fst.snd.fst, y4.fst.fst.snd.snd.fst, y4.fst.fst.snd.snd.snd),
                              ())).bind
                        fun (y9 : ((Int × Int × List (Int × Int × Int × PUnit) × PUnit) × PUnit) × PUnit) =>
                        (call (59 : Nat) s_impl_NotDia
                              ((y6.fst.fst.fst, y6.fst.fst.snd.fst, y6.fst.fst.snd.snd.fst, y6.fst.fst.snd.snd.snd),
                                ())).bind
                          fun (y10 : ((Int × Int × List (Int × Int × Int × PUnit) × PUnit) × PUnit) × PUnit) =>
                          (call (58 : Nat) s_impl_AndDia
                                ((y9.fst.fst.fst, y9.fst.fst.snd.fst, y9.fst.fst.snd.snd.fst, y9.fst.fst.snd.snd.snd),
                                  (y10.fst.fst.fst, y10.fst.fst.snd.fst, y10.fst.fst.snd.snd.fst,
                                    y10.fst.fst.snd.snd.snd),
                                  ())).bind
                            fun (y11 : ((Int × Int × List (Int × Int × Int × PUnit) × PUnit) × Bool × PUnit) × PUnit) =>
                            (call (26 : Nat) s_impl_VarDia
                                  (IntKind.i64.wrap ((1 : Int) + y2.fst.fst), y7.fst.fst, ())).bind
                              fun (y12 : ((Int × Int × List (Int × Int × Int × PUnit) × PUnit) × Bool × PUnit) × PUnit) =>
                              (call (60 : Nat) s_impl_FixDia
                                    ((y4.fst.fst.fst, y4.fst.fst.snd.fst, y4.fst.fst.snd.snd.fst, y4.fst.fst.snd.snd.snd),
                                      y7.fst.fst, true, ())).bind
                                fun
                                  (y13 : ((Int × Int × List (Int × Int × Int × PUnit) × PUnit) × Bool × PUnit) × PUnit) =>
                                (call (60 : Nat) s_impl_FixDia
                                      ((y4.fst.fst.fst, y4.fst.fst.snd.fst, y4.fst.fst.snd.snd.fst,
                                          y4.fst.fst.snd.snd.snd),
                                        y7.fst.fst, false, ())).bind
                                  fun
                                    (y14 :
                                      ((Int × Int × List (Int × Int × Int × PUnit) × PUnit) × Bool × PUnit) × PUnit) =>
                                  (call (58 : Nat) s_impl_AndDia
                                        ((y12.fst.fst.fst, y12.fst.fst.snd.fst, y12.fst.fst.snd.snd.fst,
                                            y12.fst.fst.snd.snd.snd),
                                          (y13.fst.fst.fst, y13.fst.fst.snd.fst, y13.fst.fst.snd.snd.fst,
                                            y13.fst.fst.snd.snd.snd),
                                          ())).bind
                                    fun
                                      (y15 :
                                        ((Int × Int × List (Int × Int × Int × PUnit) × PUnit) × Bool × PUnit) × PUnit) =>
                                    (call (59 : Nat) s_impl_NotDia
                                          ((y12.fst.fst.fst, y12.fst.fst.snd.fst, y12.fst.fst.snd.snd.fst,
                                              y12.fst.fst.snd.snd.snd),
                                            ())).bind
                                      fun
                                        (y16 : ((Int × Int × List (Int × Int × Int × PUnit) × PUnit) × PUnit) × PUnit) =>
                                      (call (58 : Nat) s_impl_AndDia
                                            ((y16.fst.fst.fst, y16.fst.fst.snd.fst, y16.fst.fst.snd.snd.fst,
                                                y16.fst.fst.snd.snd.snd),
                                              (y14.fst.fst.fst, y14.fst.fst.snd.fst, y14.fst.fst.snd.snd.fst,
                                                y14.fst.fst.snd.snd.snd),
                                              ())).bind
                                        fun
                                          (y17 :
                                            ((Int × Int × List (Int × Int × Int × PUnit) × PUnit) × Bool × PUnit) ×
                                              PUnit) =>
                                        (call (57 : Nat) s_impl_OrDia
                                              ((y15.fst.fst.fst, y15.fst.fst.snd.fst, y15.fst.fst.snd.snd.fst,
                                                  y15.fst.fst.snd.snd.snd),
                                                (y17.fst.fst.fst, y17.fst.fst.snd.fst, y17.fst.fst.snd.snd.fst,
                                                  y17.fst.fst.snd.snd.snd),
                                                ())).bind
                                          fun
                                            (y18 :
                                              ((Int × Int × List (Int × Int × Int × PUnit) × PUnit) × Bool × PUnit) ×
                                                PUnit) =>
                                          (call (31 : Nat) s_impl_ConstDia
                                                (IntKind.i64.wrap ((1 : Int) + y2.fst.fst), false, ())).bind
                                            fun
                                              (y19 :
                                                ((Int × Int × List (Int × Int × Int × PUnit) × PUnit) × Bool × PUnit) ×
                                                  PUnit) =>
                                            (call (59 : Nat) s_impl_NotDia
                                                  ((y4.fst.fst.fst, y4.fst.fst.snd.fst, y4.fst.fst.snd.snd.fst,
                                                      y4.fst.fst.snd.snd.snd),
                                                    ())).bind
                                              fun
                                                (y20 :
                                                  ((Int × Int × List (Int × Int × Int × PUnit) × PUnit) × PUnit) ×
                                                    PUnit) =>
                                              (call (58 : Nat) s_impl_AndDia
                                                    ((y4.fst.fst.fst, y4.fst.fst.snd.fst, y4.fst.fst.snd.snd.fst,
                                                        y4.fst.fst.snd.snd.snd),
                                                      (y20.fst.fst.fst, y20.fst.fst.snd.fst, y20.fst.fst.snd.snd.fst,
                                                        y20.fst.fst.snd.snd.snd),
                                                      ())).bind
                                                fun
                                                  (y21 :
                                                    ((Int × Int × List (Int × Int × Int × PUnit) × PUnit) ×
                                                        Bool × PUnit) ×
                                                      PUnit) =>
                                                bif y8.fst.snd.fst then
                                                  bif y19.fst.snd.fst then
                                                    (call (59 : Nat) s_impl_NotDia
                                                          ((y11.fst.fst.fst, y11.fst.fst.snd.fst, y11.fst.fst.snd.snd.fst,
                                                              y11.fst.fst.snd.snd.snd),
                                                            ())).bind
                                                      fun
                                                        (y22 :
                                                          ((Int × Int × List (Int × Int × Int × PUnit) × PUnit) × PUnit) ×
                                                            PUnit) =>
                                                      (call (61 : Nat) s_laws_likeDia
                                                            ((y22.fst.fst.fst, y22.fst.fst.snd.fst,
                                                                y22.fst.fst.snd.snd.fst, y22.fst.fst.snd.snd.snd),
                                                              (y8.fst.fst.fst, y8.fst.fst.snd.fst, y8.fst.fst.snd.snd.fst,
                                                                y8.fst.fst.snd.snd.snd),
                                                              ())).bind
                                                        fun (y23 : (Bool × PUnit) × PUnit) =>
                                                        bif y23.fst.fst then
                                                          (call (59 : Nat) s_impl_NotDia
                                                                ((y4.fst.fst.fst, y4.fst.fst.snd.fst,
                                                                    y4.fst.fst.snd.snd.fst, y4.fst.fst.snd.snd.snd),
                                                                  ())).bind
                                                            fun
                                                              (y24 :
                                                                ((Int × Int × List (Int × Int × Int × PUnit) × PUnit) ×
                                                                    PUnit) ×
                                                                  PUnit) =>
                                                            (call (59 : Nat) s_impl_NotDia
                                                                  ((y24.fst.fst.fst, y24.fst.fst.snd.fst,
                                                                      y24.fst.fst.snd.snd.fst, y24.fst.fst.snd.snd.snd),
                                                                    ())).bind
                                                              fun
                                                                (y25 :
                                                                  ((Int × Int × List (Int × Int × Int × PUnit) × PUnit) ×
                                                                      PUnit) ×
                                                                    PUnit) =>
                                                              (call (61 : Nat) s_laws_likeDia
                                                                    ((y25.fst.fst.fst, y25.fst.fst.snd.fst,
                                                                        y25.fst.fst.snd.snd.fst, y25.fst.fst.snd.snd.snd),
                                                                      (y4.fst.fst.fst, y4.fst.fst.snd.fst,
                                                                        y4.fst.fst.snd.snd.fst, y4.fst.fst.snd.snd.snd),
                                                                      ())).bind
                                                                fun (y26 : (Bool × PUnit) × PUnit) =>
                                                                bif y26.fst.fst then
                                                                  (call (61 : Nat) s_laws_likeDia
                                                                        ((y18.fst.fst.fst, y18.fst.fst.snd.fst,
                                                                            y18.fst.fst.snd.snd.fst,
                                                                            y18.fst.fst.snd.snd.snd),
                                                                          (y4.fst.fst.fst, y4.fst.fst.snd.fst,
                                                                            y4.fst.fst.snd.snd.fst,
                                                                            y4.fst.fst.snd.snd.snd),
                                                                          ())).bind
                                                                    fun (y27 : (Bool × PUnit) × PUnit) =>
                                                                    bif y27.fst.fst then
                                                                      (call (61 : Nat) s_laws_likeDia
                                                                            ((y21.fst.fst.fst, y21.fst.fst.snd.fst,
                                                                                y21.fst.fst.snd.snd.fst,
                                                                                y21.fst.fst.snd.snd.snd),
                                                                              (y19.fst.fst.fst, y19.fst.fst.snd.fst,
                                                                                y19.fst.fst.snd.snd.fst,
                                                                                y19.fst.fst.snd.snd.snd),
                                                                              ())).bind
                                                                        fun (y28 : (Bool × PUnit) × PUnit) =>
                                                                        bif y28.fst.fst then
                                                                          (call (44 : Nat) s_spec_DiaOk
                                                                                ((y8.fst.fst.fst, y8.fst.fst.snd.fst,
                                                                                    y8.fst.fst.snd.snd.fst,
                                                                                    y8.fst.fst.snd.snd.snd),
                                                                                  ())).bind
                                                                            fun (y29 : (Bool × PUnit) × PUnit) =>
                                                                            bif y29.fst.fst then
                                                                              (call (46 : Nat) s_impl_DiaOk
                                                                                    ((y8.fst.fst.fst, y8.fst.fst.snd.fst,
                                                                                        y8.fst.fst.snd.snd.fst,
                                                                                        y8.fst.fst.snd.snd.snd),
                                                                                      ())).bind
                                                                                fun (y30 : (Bool × PUnit) × PUnit) =>
                                                                                some ((y30.fst.fst, ()), ())
                                                                            else some ((false, ()), ())
                                                                        else some ((false, ()), ())
                                                                    else some ((false, ()), ())
                                                                else some ((false, ()), ())
                                                        else some ((false, ()), ())
                                                  else some ((false, ()), ())
                                                else some ((false, ()), ())
def F (call : Cl) (k : Nat) (a0 : (List Int)) : Option R := Fm call k  a0
theorem F_eq (call : Cl) (k : Nat) (a0 : (List Int)) : bodyK E call n_laws_FnDiaForm k s_laws_FnDiaForm (a0, ()) = F call k a0 := by
  kernel_rfl
end laws_FnDiaForm
end Go.Proofs.Ytcmgjdmhemfecaa.Pf
