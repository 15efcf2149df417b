/- Printed texts: what the reading of these functions is. No condition. -/
import Derived.Test.YtcmgjdmhemfecaaPvEnv
import Derived.KernelRfl
set_option linter.unusedVariables false
namespace Go.Proofs.Ytcmgjdmhemfecaa.Pf
open Go Go.Pv
/-! #### laws_FnDiaCounts -/
namespace laws_FnDiaCounts
abbrev R := ((Bool × Unit) × Unit)
def Fm (call : Cl) (k : Nat)  (a0 : (List Int)) : Option R :=
    (call (53 : Nat) s_laws_big (a0, ())).bind fun (y0 : (Bool × PUnit) × PUnit) =>
    bif y0.fst.fst then some ((true, ()), ())
    else
      (call (75 : Nat) s_spec_DrawAndDia (a0, ())).bind
        fun
          (y1 :
            ((Int × Int × List (Int × Int × Int × PUnit) × PUnit) ×
                (Int × Int × List (Int × Int × Int × PUnit) × PUnit) × PUnit) ×
              PUnit) =>
        (call (58 : Nat) s_impl_AndDia
              ((y1.fst.fst.fst, y1.fst.fst.snd.fst, y1.fst.fst.snd.snd.fst, y1.fst.fst.snd.snd.snd),
                (y1.fst.snd.fst.fst, y1.fst.snd.fst.snd.fst, y1.fst.snd.fst.snd.snd.fst, y1.fst.snd.fst.snd.snd.snd),
                ())).bind
          fun (y2 : ((Int × Int × List (Int × Int × Int × PUnit) × PUnit) × Bool × PUnit) × PUnit) =>
          (call (57 : Nat) s_impl_OrDia
                ((y1.fst.fst.fst, y1.fst.fst.snd.fst, y1.fst.fst.snd.snd.fst, y1.fst.fst.snd.snd.snd),
                  (y1.fst.snd.fst.fst, y1.fst.snd.fst.snd.fst, y1.fst.snd.fst.snd.snd.fst, y1.fst.snd.fst.snd.snd.snd),
                  ())).bind
            fun (y3 : ((Int × Int × List (Int × Int × Int × PUnit) × PUnit) × Bool × PUnit) × PUnit) =>
            (call (67 : Nat) s_spec_AndDia
                  ((y1.fst.fst.fst, y1.fst.fst.snd.fst, y1.fst.fst.snd.snd.fst, y1.fst.fst.snd.snd.snd),
                    (y1.fst.snd.fst.fst, y1.fst.snd.fst.snd.fst, y1.fst.snd.fst.snd.snd.fst, y1.fst.snd.fst.snd.snd.snd),
                    ())).bind
              fun (y4 : ((Int × Int × List (Int × Int × Int × PUnit) × PUnit) × Bool × PUnit) × PUnit) =>
              bif !y2.fst.snd.fst == y4.fst.snd.fst then some ((false, ()), ())
              else
                bif !y3.fst.snd.fst == y4.fst.snd.fst then some ((false, ()), ())
                else
                  bif !y2.fst.snd.fst then
                    (call (52 : Nat) s_impl_CountDia
                          ((y1.fst.fst.fst, y1.fst.fst.snd.fst, y1.fst.fst.snd.snd.fst, y1.fst.fst.snd.snd.snd), ())).bind
                      fun (y5 : (Int × PUnit) × PUnit) =>
                      (call (51 : Nat) s_spec_CountDia
                            ((y1.fst.fst.fst, y1.fst.fst.snd.fst, y1.fst.fst.snd.snd.fst, y1.fst.fst.snd.snd.snd),
                              ())).bind
                        fun (y6 : (Int × PUnit) × PUnit) => some ((y5.fst.fst == y6.fst.fst, ()), ())
                  else
                    (call (52 : Nat) s_impl_CountDia
                          ((y2.fst.fst.fst, y2.fst.fst.snd.fst, y2.fst.fst.snd.snd.fst, y2.fst.fst.snd.snd.snd), ())).bind
                      fun (y7 : (Int × PUnit) × PUnit) =>
                      (call (52 : Nat) s_impl_CountDia
                            ((y3.fst.fst.fst, y3.fst.fst.snd.fst, y3.fst.fst.snd.snd.fst, y3.fst.fst.snd.snd.snd),
                              ())).bind
                        fun (y8 : (Int × PUnit) × PUnit) =>
                        (call (51 : Nat) s_spec_CountDia
                              ((y1.fst.fst.fst, y1.fst.fst.snd.fst, y1.fst.fst.snd.snd.fst, y1.fst.fst.snd.snd.snd),
                                ())).bind
                          fun (y9 : (Int × PUnit) × PUnit) =>
                          (call (51 : Nat) s_spec_CountDia
                                ((y1.fst.snd.fst.fst, y1.fst.snd.fst.snd.fst, y1.fst.snd.fst.snd.snd.fst,
                                    y1.fst.snd.fst.snd.snd.snd),
                                  ())).bind
                            fun (y10 : (Int × PUnit) × PUnit) =>
                            bif
                                IntKind.i64.wrap (y7.fst.fst + y8.fst.fst) ==
                                  IntKind.i64.wrap (y9.fst.fst + y10.fst.fst) then
                              (call (59 : Nat) s_impl_NotDia
                                    ((y1.fst.fst.fst, y1.fst.fst.snd.fst, y1.fst.fst.snd.snd.fst, y1.fst.fst.snd.snd.snd),
                                      ())).bind
                                fun (y11 : ((Int × Int × List (Int × Int × Int × PUnit) × PUnit) × PUnit) × PUnit) =>
                                (call (52 : Nat) s_impl_CountDia
                                      ((y11.fst.fst.fst, y11.fst.fst.snd.fst, y11.fst.fst.snd.snd.fst,
                                          y11.fst.fst.snd.snd.snd),
                                        ())).bind
                                  fun (y12 : (Int × PUnit) × PUnit) =>
                                  bif decide (y1.fst.fst.fst < (0 : Int)) then none
                                  else
                                    (call (51 : Nat) s_spec_CountDia
                                          ((y1.fst.fst.fst, y1.fst.fst.snd.fst, y1.fst.fst.snd.snd.fst,
                                              y1.fst.fst.snd.snd.snd),
                                            ())).bind
                                      fun (y13 : (Int × PUnit) × PUnit) =>
                                      some
                                        ((y12.fst.fst ==
                                              IntKind.i64.wrap (shlI IntKind.i64 (1 : Int) y1.fst.fst.fst - y13.fst.fst),
                                            ()),
                                          ())
                            else some ((false, ()), ())
def F (call : Cl) (k : Nat) (a0 : (List Int)) : Option R := Fm call k  a0
theorem F_eq (call : Cl) (k : Nat) (a0 : (List Int)) : bodyK E call n_laws_FnDiaCounts k s_laws_FnDiaCounts (a0, ()) = F call k a0 := by
  kernel_rfl
end laws_FnDiaCounts
end Go.Proofs.Ytcmgjdmhemfecaa.Pf
