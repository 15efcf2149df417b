/- Printed texts: what the reading of these functions is. No condition. -/
import Derived.Test.YtcmgjdmhemfecaaPvEnv
import Derived.KernelRfl
set_option linter.unusedVariables false
namespace Go.Proofs.Ytcmgjdmhemfecaa.Pf
open Go Go.Pv
abbrev YLDiaBits_0 := (((Int × (Int × ((List (Int × (Int × (Int × Unit)))) × Unit))) × Unit) × (((List Int) × (Int × (Int × Unit))) × Unit))
abbrev YLDiaBits_1 := (((Int × (Int × ((List (Int × (Int × (Int × Unit)))) × Unit))) × (Bool × Unit)) × Unit)
abbrev YLDiaBits_2 := ((Int × Unit) × (((List Int) × (Int × (Int × Unit))) × Unit))
/-! #### laws_FnDiaBits -/
namespace laws_FnDiaBits
abbrev R := ((Bool × Unit) × Unit)
def S0 (y2 : YLDiaBits_2) (y4 : YLDiaBits_0) (y6 : YLDiaBits_0) (y7 : YLDiaBits_2) (y8 : YLDiaBits_1) (y9 : YLDiaBits_1) (y10 : YLDiaBits_1) (y11 : YLDiaBits_1) (y12 : (((Int × (Int × ((List (Int × (Int × (Int × Unit)))) × Unit))) × Unit) × Unit)) (v0_2 : Int) : St := ⟨mkS 171 [(4, .v (.int .i64) (IntKind.i64.wrap ((1 : Int) + y2.fst.fst))), (5, .p [5] [] 0), (6, .p [6] [] 0), (7, .v (.int .i64) (y7.fst.fst)), (8, .p [8] [] 0), (10, .p [10] [] 0), (12, .p [12] [] 0), (14, .p [14] [] 0), (16, .p [16] [] 0), (17, .v (.int .i64) v0_2)], [([16, 5, 1, 1, 0], .list 92 (.pair (.int .i64) (.pair (.int .i64) (.pair (.int .i64) .unit))) (y12.fst.fst.snd.snd.fst)), ([16], .box (.pr (.v (.int .i64) (y12.fst.fst.fst)) (.pr (.v (.int .i64) (y12.fst.fst.snd.fst)) (.pr (.ref [16, 5, 1, 1, 0]) (.v .unit ()))))), ([14, 5, 1, 1, 0], .list 92 (.pair (.int .i64) (.pair (.int .i64) (.pair (.int .i64) .unit))) (y11.fst.fst.snd.snd.fst)), ([14], .box (.pr (.v (.int .i64) (y11.fst.fst.fst)) (.pr (.v (.int .i64) (y11.fst.fst.snd.fst)) (.pr (.ref [14, 5, 1, 1, 0]) (.v .unit ()))))), ([12, 5, 1, 1, 0], .list 92 (.pair (.int .i64) (.pair (.int .i64) (.pair (.int .i64) .unit))) (y10.fst.fst.snd.snd.fst)), ([12], .box (.pr (.v (.int .i64) (y10.fst.fst.fst)) (.pr (.v (.int .i64) (y10.fst.fst.snd.fst)) (.pr (.ref [12, 5, 1, 1, 0]) (.v .unit ()))))), ([10, 5, 1, 1, 0], .list 92 (.pair (.int .i64) (.pair (.int .i64) (.pair (.int .i64) .unit))) (y9.fst.fst.snd.snd.fst)), ([10], .box (.pr (.v (.int .i64) (y9.fst.fst.fst)) (.pr (.v (.int .i64) (y9.fst.fst.snd.fst)) (.pr (.ref [10, 5, 1, 1, 0]) (.v .unit ()))))), ([8, 5, 1, 1, 0], .list 92 (.pair (.int .i64) (.pair (.int .i64) (.pair (.int .i64) .unit))) (y8.fst.fst.snd.snd.fst)), ([8], .box (.pr (.v (.int .i64) (y8.fst.fst.fst)) (.pr (.v (.int .i64) (y8.fst.fst.snd.fst)) (.pr (.ref [8, 5, 1, 1, 0]) (.v .unit ()))))), ([6, 5, 1, 1, 0], .list 92 (.pair (.int .i64) (.pair (.int .i64) (.pair (.int .i64) .unit))) (y6.fst.fst.snd.snd.fst)), ([6], .box (.pr (.v (.int .i64) (y6.fst.fst.fst)) (.pr (.v (.int .i64) (y6.fst.fst.snd.fst)) (.pr (.ref [6, 5, 1, 1, 0]) (.v .unit ()))))), ([5, 5, 1, 1, 0], .list 92 (.pair (.int .i64) (.pair (.int .i64) (.pair (.int .i64) .unit))) (y4.fst.fst.snd.snd.fst)), ([5], .box (.pr (.v (.int .i64) (y4.fst.fst.fst)) (.pr (.v (.int .i64) (y4.fst.fst.snd.fst)) (.pr (.ref [5, 5, 1, 1, 0]) (.v .unit ())))))]⟩
def step0 (call : Cl) (k : Nat) (y2 : ((Int × Unit) × (((List Int) × (Int × (Int × Unit))) × Unit))) (y4 : (((Int × (Int × ((List (Int × (Int × (Int × Unit)))) × Unit))) × Unit) × (((List Int) × (Int × (Int × Unit))) × Unit))) (y6 : (((Int × (Int × ((List (Int × (Int × (Int × Unit)))) × Unit))) × Unit) × (((List Int) × (Int × (Int × Unit))) × Unit))) (y7 : ((Int × Unit) × (((List Int) × (Int × (Int × Unit))) × Unit))) (y8 : (((Int × (Int × ((List (Int × (Int × (Int × Unit)))) × Unit))) × (Bool × Unit)) × Unit)) (y9 : (((Int × (Int × ((List (Int × (Int × (Int × Unit)))) × Unit))) × (Bool × Unit)) × Unit)) (y10 : (((Int × (Int × ((List (Int × (Int × (Int × Unit)))) × Unit))) × (Bool × Unit)) × Unit)) (y11 : (((Int × (Int × ((List (Int × (Int × (Int × Unit)))) × Unit))) × (Bool × Unit)) × Unit)) (y12 : (((Int × (Int × ((List (Int × (Int × (Int × Unit)))) × Unit))) × Unit) × Unit))   (r0 : (Int) → Option R) (v0_2 : Int) : Option R :=
    bif decide (IntKind.i64.wrap ((1 : Int) + y2.fst.fst) < (0 : Int)) then none
  else
    bif decide (v0_2 < shlI IntKind.i64 (1 : Int) (IntKind.i64.wrap ((1 : Int) + y2.fst.fst))) then
      (call (65 : Nat) s_laws_bitsOf (IntKind.i64.wrap ((1 : Int) + y2.fst.fst), v0_2, ())).bind
        fun (y15 : (List Bool × PUnit) × PUnit) =>
        (call (63 : Nat) s_impl_YesIn
              ((y4.fst.fst.fst, y4.fst.fst.snd.fst, y4.fst.fst.snd.snd.fst, ()), y15.fst.fst, ())).bind
          fun (y16 : (Bool × PUnit) × PUnit) =>
          (call (63 : Nat) s_impl_YesIn
                ((y6.fst.fst.fst, y6.fst.fst.snd.fst, y6.fst.fst.snd.snd.fst, ()), y15.fst.fst, ())).bind
            fun (y17 : (Bool × PUnit) × PUnit) =>
            bif decide ((0 : Int) ≤ y7.fst.fst) && decide (Int.toNat y7.fst.fst < List.length y15.fst.fst) then
              (lget y15.fst.fst (Int.toNat y7.fst.fst)).bind fun (y18 : Bool) =>
                (call (63 : Nat) s_impl_YesIn
                      ((y4.fst.fst.fst, y4.fst.fst.snd.fst, y4.fst.fst.snd.snd.fst, ()),
                        List.set y15.fst.fst (Int.toNat y7.fst.fst) true, ())).bind
                  fun (y19 : (Bool × PUnit) × PUnit) =>
                  (call (65 : Nat) s_laws_bitsOf (IntKind.i64.wrap ((1 : Int) + y2.fst.fst), v0_2, ())).bind
                    fun (y20 : (List Bool × PUnit) × PUnit) =>
                    (call (63 : Nat) s_impl_YesIn
                          ((y11.fst.fst.fst, y11.fst.fst.snd.fst, y11.fst.fst.snd.snd.fst, ()), y20.fst.fst, ())).bind
                      fun (y21 : (Bool × PUnit) × PUnit) =>
                      bif !y21.fst.fst == y19.fst.fst then some ((false, ()), ())
                      else
                        bif
                            decide ((0 : Int) ≤ y7.fst.fst) &&
                              decide
                                (Int.toNat y7.fst.fst < (List.set y15.fst.fst (Int.toNat y7.fst.fst) true).length) then
                          (lget (List.set y15.fst.fst (Int.toNat y7.fst.fst) true) (Int.toNat y7.fst.fst)).bind
                            fun (y22 : Bool) =>
                            bif y19.fst.fst then
                              (call (65 : Nat) s_laws_bitsOf (IntKind.i64.wrap ((1 : Int) + y2.fst.fst), v0_2, ())).bind
                                fun (y23 : (List Bool × PUnit) × PUnit) =>
                                (call (63 : Nat) s_impl_YesIn
                                      ((y8.fst.fst.fst, y8.fst.fst.snd.fst, y8.fst.fst.snd.snd.fst, ()), y23.fst.fst,
                                        ())).bind
                                  fun (y24 : (Bool × PUnit) × PUnit) =>
                                  bif y16.fst.fst then
                                    bif !y24.fst.fst == y17.fst.fst then some ((false, ()), ())
                                    else
                                      (call (63 : Nat) s_impl_YesIn
                                            ((y9.fst.fst.fst, y9.fst.fst.snd.fst, y9.fst.fst.snd.snd.fst, ()),
                                              y23.fst.fst, ())).bind
                                        fun (y25 : (Bool × PUnit) × PUnit) =>
                                        bif y16.fst.fst then
                                          bif !y25.fst.fst == true then some ((false, ()), ())
                                          else
                                            (call (63 : Nat) s_impl_YesIn
                                                  ((y12.fst.fst.fst, y12.fst.fst.snd.fst, y12.fst.fst.snd.snd.fst, ()),
                                                    y23.fst.fst, ())).bind
                                              fun (y26 : (Bool × PUnit) × PUnit) =>
                                              bif y26.fst.fst == y16.fst.fst then some ((false, ()), ())
                                              else
                                                (call (63 : Nat) s_impl_YesIn
                                                      ((y10.fst.fst.fst, y10.fst.fst.snd.fst, y10.fst.fst.snd.snd.fst,
                                                          ()),
                                                        y23.fst.fst, ())).bind
                                                  fun (y27 : (Bool × PUnit) × PUnit) =>
                                                  bif !y27.fst.fst == true then some ((false, ()), ())
                                                  else
                                                    (call (62 : Nat) s_spec_YesIn
                                                          ((y4.fst.fst.fst, y4.fst.fst.snd.fst, y4.fst.fst.snd.snd.fst,
                                                              ()),
                                                            y23.fst.fst, ())).bind
                                                      fun (y28 : (Bool × PUnit) × PUnit) =>
                                                      bif !y16.fst.fst == y28.fst.fst then some ((false, ()), ())
                                                      else r0 (IntKind.i64.wrap (v0_2 + (1 : Int)))
                                        else
                                          bif !y25.fst.fst == y17.fst.fst then some ((false, ()), ())
                                          else
                                            (call (63 : Nat) s_impl_YesIn
                                                  ((y12.fst.fst.fst, y12.fst.fst.snd.fst, y12.fst.fst.snd.snd.fst, ()),
                                                    y23.fst.fst, ())).bind
                                              fun (y29 : (Bool × PUnit) × PUnit) =>
                                              bif y29.fst.fst == y16.fst.fst then some ((false, ()), ())
                                              else
                                                (call (63 : Nat) s_impl_YesIn
                                                      ((y10.fst.fst.fst, y10.fst.fst.snd.fst, y10.fst.fst.snd.snd.fst,
                                                          ()),
                                                        y23.fst.fst, ())).bind
                                                  fun (y30 : (Bool × PUnit) × PUnit) =>
                                                  bif !y30.fst.fst == true then some ((false, ()), ())
                                                  else
                                                    (call (62 : Nat) s_spec_YesIn
                                                          ((y4.fst.fst.fst, y4.fst.fst.snd.fst, y4.fst.fst.snd.snd.fst,
                                                              ()),
                                                            y23.fst.fst, ())).bind
                                                      fun (y31 : (Bool × PUnit) × PUnit) =>
                                                      bif !y16.fst.fst == y31.fst.fst then some ((false, ()), ())
                                                      else r0 (IntKind.i64.wrap (v0_2 + (1 : Int)))
                                  else
                                    bif !y24.fst.fst == false then some ((false, ()), ())
                                    else
                                      (call (63 : Nat) s_impl_YesIn
                                            ((y9.fst.fst.fst, y9.fst.fst.snd.fst, y9.fst.fst.snd.snd.fst, ()),
                                              y23.fst.fst, ())).bind
                                        fun (y32 : (Bool × PUnit) × PUnit) =>
                                        bif y16.fst.fst then
                                          bif !y32.fst.fst == true then some ((false, ()), ())
                                          else
                                            (call (63 : Nat) s_impl_YesIn
                                                  ((y12.fst.fst.fst, y12.fst.fst.snd.fst, y12.fst.fst.snd.snd.fst, ()),
                                                    y23.fst.fst, ())).bind
                                              fun (y33 : (Bool × PUnit) × PUnit) =>
                                              bif y33.fst.fst == y16.fst.fst then some ((false, ()), ())
                                              else
                                                (call (63 : Nat) s_impl_YesIn
                                                      ((y10.fst.fst.fst, y10.fst.fst.snd.fst, y10.fst.fst.snd.snd.fst,
                                                          ()),
                                                        y23.fst.fst, ())).bind
                                                  fun (y34 : (Bool × PUnit) × PUnit) =>
                                                  bif !y34.fst.fst == true then some ((false, ()), ())
                                                  else
                                                    (call (62 : Nat) s_spec_YesIn
                                                          ((y4.fst.fst.fst, y4.fst.fst.snd.fst, y4.fst.fst.snd.snd.fst,
                                                              ()),
                                                            y23.fst.fst, ())).bind
                                                      fun (y35 : (Bool × PUnit) × PUnit) =>
                                                      bif !y16.fst.fst == y35.fst.fst then some ((false, ()), ())
                                                      else r0 (IntKind.i64.wrap (v0_2 + (1 : Int)))
                                        else
                                          bif !y32.fst.fst == y17.fst.fst then some ((false, ()), ())
                                          else
                                            (call (63 : Nat) s_impl_YesIn
                                                  ((y12.fst.fst.fst, y12.fst.fst.snd.fst, y12.fst.fst.snd.snd.fst, ()),
                                                    y23.fst.fst, ())).bind
                                              fun (y36 : (Bool × PUnit) × PUnit) =>
                                              bif y36.fst.fst == y16.fst.fst then some ((false, ()), ())
                                              else
                                                (call (63 : Nat) s_impl_YesIn
                                                      ((y10.fst.fst.fst, y10.fst.fst.snd.fst, y10.fst.fst.snd.snd.fst,
                                                          ()),
                                                        y23.fst.fst, ())).bind
                                                  fun (y37 : (Bool × PUnit) × PUnit) =>
                                                  bif !y37.fst.fst == true then some ((false, ()), ())
                                                  else
                                                    (call (62 : Nat) s_spec_YesIn
                                                          ((y4.fst.fst.fst, y4.fst.fst.snd.fst, y4.fst.fst.snd.snd.fst,
                                                              ()),
                                                            y23.fst.fst, ())).bind
                                                      fun (y38 : (Bool × PUnit) × PUnit) =>
                                                      bif !y16.fst.fst == y38.fst.fst then some ((false, ()), ())
                                                      else r0 (IntKind.i64.wrap (v0_2 + (1 : Int)))
                            else
                              (call (63 : Nat) s_impl_YesIn
                                    ((y4.fst.fst.fst, y4.fst.fst.snd.fst, y4.fst.fst.snd.snd.fst, ()),
                                      (List.set y15.fst.fst (Int.toNat y7.fst.fst) true).set (Int.toNat y7.fst.fst) false,
                                      ())).bind
                                fun (y39 : (Bool × PUnit) × PUnit) =>
                                (call (65 : Nat) s_laws_bitsOf (IntKind.i64.wrap ((1 : Int) + y2.fst.fst), v0_2, ())).bind
                                  fun (y40 : (List Bool × PUnit) × PUnit) =>
                                  (call (63 : Nat) s_impl_YesIn
                                        ((y8.fst.fst.fst, y8.fst.fst.snd.fst, y8.fst.fst.snd.snd.fst, ()), y40.fst.fst,
                                          ())).bind
                                    fun (y41 : (Bool × PUnit) × PUnit) =>
                                    bif y16.fst.fst then
                                      bif !y41.fst.fst == y17.fst.fst then some ((false, ()), ())
                                      else
                                        (call (63 : Nat) s_impl_YesIn
                                              ((y9.fst.fst.fst, y9.fst.fst.snd.fst, y9.fst.fst.snd.snd.fst, ()),
                                                y40.fst.fst, ())).bind
                                          fun (y42 : (Bool × PUnit) × PUnit) =>
                                          bif y16.fst.fst then
                                            bif !y42.fst.fst == true then some ((false, ()), ())
                                            else
                                              (call (63 : Nat) s_impl_YesIn
                                                    ((y12.fst.fst.fst, y12.fst.fst.snd.fst, y12.fst.fst.snd.snd.fst, ()),
                                                      y40.fst.fst, ())).bind
                                                fun (y43 : (Bool × PUnit) × PUnit) =>
                                                bif y43.fst.fst == y16.fst.fst then some ((false, ()), ())
                                                else
                                                  (call (63 : Nat) s_impl_YesIn
                                                        ((y10.fst.fst.fst, y10.fst.fst.snd.fst, y10.fst.fst.snd.snd.fst,
                                                            ()),
                                                          y40.fst.fst, ())).bind
                                                    fun (y44 : (Bool × PUnit) × PUnit) =>
                                                    bif !y44.fst.fst == y39.fst.fst then some ((false, ()), ())
                                                    else
                                                      (call (62 : Nat) s_spec_YesIn
                                                            ((y4.fst.fst.fst, y4.fst.fst.snd.fst, y4.fst.fst.snd.snd.fst,
                                                                ()),
                                                              y40.fst.fst, ())).bind
                                                        fun (y45 : (Bool × PUnit) × PUnit) =>
                                                        bif !y16.fst.fst == y45.fst.fst then some ((false, ()), ())
                                                        else r0 (IntKind.i64.wrap (v0_2 + (1 : Int)))
                                          else
                                            bif !y42.fst.fst == y17.fst.fst then some ((false, ()), ())
                                            else
                                              (call (63 : Nat) s_impl_YesIn
                                                    ((y12.fst.fst.fst, y12.fst.fst.snd.fst, y12.fst.fst.snd.snd.fst, ()),
                                                      y40.fst.fst, ())).bind
                                                fun (y46 : (Bool × PUnit) × PUnit) =>
                                                bif y46.fst.fst == y16.fst.fst then some ((false, ()), ())
                                                else
                                                  (call (63 : Nat) s_impl_YesIn
                                                        ((y10.fst.fst.fst, y10.fst.fst.snd.fst, y10.fst.fst.snd.snd.fst,
                                                            ()),
                                                          y40.fst.fst, ())).bind
                                                    fun (y47 : (Bool × PUnit) × PUnit) =>
                                                    bif !y47.fst.fst == y39.fst.fst then some ((false, ()), ())
                                                    else
                                                      (call (62 : Nat) s_spec_YesIn
                                                            ((y4.fst.fst.fst, y4.fst.fst.snd.fst, y4.fst.fst.snd.snd.fst,
                                                                ()),
                                                              y40.fst.fst, ())).bind
                                                        fun (y48 : (Bool × PUnit) × PUnit) =>
                                                        bif !y16.fst.fst == y48.fst.fst then some ((false, ()), ())
                                                        else r0 (IntKind.i64.wrap (v0_2 + (1 : Int)))
                                    else
                                      bif !y41.fst.fst == false then some ((false, ()), ())
                                      else
                                        (call (63 : Nat) s_impl_YesIn
                                              ((y9.fst.fst.fst, y9.fst.fst.snd.fst, y9.fst.fst.snd.snd.fst, ()),
                                                y40.fst.fst, ())).bind
                                          fun (y49 : (Bool × PUnit) × PUnit) =>
                                          bif y16.fst.fst then
                                            bif !y49.fst.fst == true then some ((false, ()), ())
                                            else
                                              (call (63 : Nat) s_impl_YesIn
                                                    ((y12.fst.fst.fst, y12.fst.fst.snd.fst, y12.fst.fst.snd.snd.fst, ()),
                                                      y40.fst.fst, ())).bind
                                                fun (y50 : (Bool × PUnit) × PUnit) =>
                                                bif y50.fst.fst == y16.fst.fst then some ((false, ()), ())
                                                else
                                                  (call (63 : Nat) s_impl_YesIn
                                                        ((y10.fst.fst.fst, y10.fst.fst.snd.fst, y10.fst.fst.snd.snd.fst,
                                                            ()),
                                                          y40.fst.fst, ())).bind
                                                    fun (y51 : (Bool × PUnit) × PUnit) =>
                                                    bif !y51.fst.fst == y39.fst.fst then some ((false, ()), ())
                                                    else
                                                      (call (62 : Nat) s_spec_YesIn
                                                            ((y4.fst.fst.fst, y4.fst.fst.snd.fst, y4.fst.fst.snd.snd.fst,
                                                                ()),
                                                              y40.fst.fst, ())).bind
                                                        fun (y52 : (Bool × PUnit) × PUnit) =>
                                                        bif !y16.fst.fst == y52.fst.fst then some ((false, ()), ())
                                                        else r0 (IntKind.i64.wrap (v0_2 + (1 : Int)))
                                          else
                                            bif !y49.fst.fst == y17.fst.fst then some ((false, ()), ())
                                            else
                                              (call (63 : Nat) s_impl_YesIn
                                                    ((y12.fst.fst.fst, y12.fst.fst.snd.fst, y12.fst.fst.snd.snd.fst, ()),
                                                      y40.fst.fst, ())).bind
                                                fun (y53 : (Bool × PUnit) × PUnit) =>
                                                bif y53.fst.fst == y16.fst.fst then some ((false, ()), ())
                                                else
                                                  (call (63 : Nat) s_impl_YesIn
                                                        ((y10.fst.fst.fst, y10.fst.fst.snd.fst, y10.fst.fst.snd.snd.fst,
                                                            ()),
                                                          y40.fst.fst, ())).bind
                                                    fun (y54 : (Bool × PUnit) × PUnit) =>
                                                    bif !y54.fst.fst == y39.fst.fst then some ((false, ()), ())
                                                    else
                                                      (call (62 : Nat) s_spec_YesIn
                                                            ((y4.fst.fst.fst, y4.fst.fst.snd.fst, y4.fst.fst.snd.snd.fst,
                                                                ()),
                                                              y40.fst.fst, ())).bind
                                                        fun (y55 : (Bool × PUnit) × PUnit) =>
                                                        bif !y16.fst.fst == y55.fst.fst then some ((false, ()), ())
                                                        else r0 (IntKind.i64.wrap (v0_2 + (1 : Int)))
                        else none
            else none
    else some ((true, ()), ())
def L0 (call : Cl) (k : Nat) (y2 : ((Int × Unit) × (((List Int) × (Int × (Int × Unit))) × Unit))) (y4 : (((Int × (Int × ((List (Int × (Int × (Int × Unit)))) × Unit))) × Unit) × (((List Int) × (Int × (Int × Unit))) × Unit))) (y6 : (((Int × (Int × ((List (Int × (Int × (Int × Unit)))) × Unit))) × Unit) × (((List Int) × (Int × (Int × Unit))) × Unit))) (y7 : ((Int × Unit) × (((List Int) × (Int × (Int × Unit))) × Unit))) (y8 : (((Int × (Int × ((List (Int × (Int × (Int × Unit)))) × Unit))) × (Bool × Unit)) × Unit)) (y9 : (((Int × (Int × ((List (Int × (Int × (Int × Unit)))) × Unit))) × (Bool × Unit)) × Unit)) (y10 : (((Int × (Int × ((List (Int × (Int × (Int × Unit)))) × Unit))) × (Bool × Unit)) × Unit)) (y11 : (((Int × (Int × ((List (Int × (Int × (Int × Unit)))) × Unit))) × (Bool × Unit)) × Unit)) (y12 : (((Int × (Int × ((List (Int × (Int × (Int × Unit)))) × Unit))) × Unit) × Unit))  : Nat → (Int) → Option R
    | 0, _ => none
    | n + 1, v0_2 => step0 call k y2 y4 y6 y7 y8 y9 y10 y11 y12   (L0 call k y2 y4 y6 y7 y8 y9 y10 y11 y12  n) v0_2
def Fm (call : Cl) (k : Nat) (l0 : (((Int × Unit) × (((List Int) × (Int × (Int × Unit))) × Unit))) → ((((Int × (Int × ((List (Int × (Int × (Int × Unit)))) × Unit))) × Unit) × (((List Int) × (Int × (Int × Unit))) × Unit))) → ((((Int × (Int × ((List (Int × (Int × (Int × Unit)))) × Unit))) × Unit) × (((List Int) × (Int × (Int × Unit))) × Unit))) → (((Int × Unit) × (((List Int) × (Int × (Int × Unit))) × Unit))) → ((((Int × (Int × ((List (Int × (Int × (Int × Unit)))) × Unit))) × (Bool × Unit)) × Unit)) → ((((Int × (Int × ((List (Int × (Int × (Int × Unit)))) × Unit))) × (Bool × Unit)) × Unit)) → ((((Int × (Int × ((List (Int × (Int × (Int × Unit)))) × Unit))) × (Bool × Unit)) × Unit)) → ((((Int × (Int × ((List (Int × (Int × (Int × Unit)))) × Unit))) × (Bool × Unit)) × Unit)) → ((((Int × (Int × ((List (Int × (Int × (Int × Unit)))) × Unit))) × Unit) × Unit)) → (Int) → Option R) (a0 : (List Int)) : Option R :=
    (call (53 : Nat) s_laws_big (a0, ())).bind fun (y0 : (Bool × PUnit) × PUnit) =>
    bif y0.fst.fst then some ((true, ()), ())
    else
      (call (54 : Nat) s_laws_roll (a0, (20 : Int), ())).bind
        fun (y1 : ((List Int × Int × Int × PUnit) × PUnit) × PUnit) =>
        (call (55 : Nat) s_laws_dice_below
              ((y1.fst.fst.fst, y1.fst.fst.snd.fst, y1.fst.fst.snd.snd.fst, y1.fst.fst.snd.snd.snd), (5 : Int), ())).bind
          fun (y2 : (Int × PUnit) × (List Int × Int × Int × PUnit) × PUnit) =>
          (call (55 : Nat) s_laws_dice_below
                ((y2.snd.fst.fst, y2.snd.fst.snd.fst, y2.snd.fst.snd.snd.fst, y2.snd.fst.snd.snd.snd), (8 : Int),
                  ())).bind
            fun (y3 : (Int × PUnit) × (List Int × Int × Int × PUnit) × PUnit) =>
            (call (56 : Nat) s_laws_picture
                  ((y3.snd.fst.fst, y3.snd.fst.snd.fst, y3.snd.fst.snd.snd.fst, y3.snd.fst.snd.snd.snd),
                    IntKind.i64.wrap ((1 : Int) + y2.fst.fst), y3.fst.fst, ())).bind
              fun
                (y4 :
                  ((Int × Int × List (Int × Int × Int × PUnit) × PUnit) × PUnit) ×
                    (List Int × Int × Int × PUnit) × PUnit) =>
              (call (55 : Nat) s_laws_dice_below
                    ((y4.snd.fst.fst, y4.snd.fst.snd.fst, y4.snd.fst.snd.snd.fst, y4.snd.fst.snd.snd.snd), (8 : Int),
                      ())).bind
                fun (y5 : (Int × PUnit) × (List Int × Int × Int × PUnit) × PUnit) =>
                (call (56 : Nat) s_laws_picture
                      ((y5.snd.fst.fst, y5.snd.fst.snd.fst, y5.snd.fst.snd.snd.fst, y5.snd.fst.snd.snd.snd),
                        IntKind.i64.wrap ((1 : Int) + y2.fst.fst), y5.fst.fst, ())).bind
                  fun
                    (y6 :
                      ((Int × Int × List (Int × Int × Int × PUnit) × PUnit) × PUnit) ×
                        (List Int × Int × Int × PUnit) × PUnit) =>
                  (call (55 : Nat) s_laws_dice_below
                        ((y6.snd.fst.fst, y6.snd.fst.snd.fst, y6.snd.fst.snd.snd.fst, y6.snd.fst.snd.snd.snd),
                          IntKind.i64.wrap ((1 : Int) + y2.fst.fst), ())).bind
                    fun (y7 : (Int × PUnit) × (List Int × Int × Int × PUnit) × PUnit) =>
                    (call (58 : Nat) s_impl_AndDia
                          ((y4.fst.fst.fst, y4.fst.fst.snd.fst, y4.fst.fst.snd.snd.fst, y4.fst.fst.snd.snd.snd),
                            (y6.fst.fst.fst, y6.fst.fst.snd.fst, y6.fst.fst.snd.snd.fst, y6.fst.fst.snd.snd.snd),
                            ())).bind
                      fun (y8 : ((Int × Int × List (Int × Int × Int × PUnit) × PUnit) × Bool × PUnit) × PUnit) =>
                      (call (57 : Nat) s_impl_OrDia
                            ((y4.fst.fst.fst, y4.fst.fst.snd.fst, y4.fst.fst.snd.snd.fst, y4.fst.fst.snd.snd.snd),
                              (y6.fst.fst.fst, y6.fst.fst.snd.fst, y6.fst.fst.snd.snd.fst, y6.fst.fst.snd.snd.snd),
                              ())).bind
                        fun (y9 : ((Int × Int × List (Int × Int × Int × PUnit) × PUnit) × Bool × PUnit) × PUnit) =>
                        (call (64 : Nat) s_impl_SomeDia
                              ((y4.fst.fst.fst, y4.fst.fst.snd.fst, y4.fst.fst.snd.snd.fst, y4.fst.fst.snd.snd.snd),
                                y7.fst.fst, ())).bind
                          fun (y10 : ((Int × Int × List (Int × Int × Int × PUnit) × PUnit) × Bool × PUnit) × PUnit) =>
                          (call (60 : Nat) s_impl_FixDia
                                ((y4.fst.fst.fst, y4.fst.fst.snd.fst, y4.fst.fst.snd.snd.fst, y4.fst.fst.snd.snd.snd),
                                  y7.fst.fst, true, ())).bind
                            fun (y11 : ((Int × Int × List (Int × Int × Int × PUnit) × PUnit) × Bool × PUnit) × PUnit) =>
                            (call (59 : Nat) s_impl_NotDia
                                  ((y4.fst.fst.fst, y4.fst.fst.snd.fst, y4.fst.fst.snd.snd.fst, y4.fst.fst.snd.snd.snd),
                                    ())).bind
                              fun (y12 : ((Int × Int × List (Int × Int × Int × PUnit) × PUnit) × PUnit) × PUnit) =>
                              bif !y8.fst.snd.fst then some ((false, ()), ())
                              else
                                bif !y9.fst.snd.fst then some ((false, ()), ())
                                else
                                  bif !y10.fst.snd.fst then some ((false, ()), ())
                                  else
                                    bif !y11.fst.snd.fst then some ((false, ()), ())
                                    else
                                      (call (46 : Nat) s_impl_DiaOk
                                            ((y8.fst.fst.fst, y8.fst.fst.snd.fst, y8.fst.fst.snd.snd.fst,
                                                y8.fst.fst.snd.snd.snd),
                                              ())).bind
                                        fun (y13 : (Bool × PUnit) × PUnit) =>
                                        bif !y13.fst.fst then some ((false, ()), ())
                                        else
                                          (call (46 : Nat) s_impl_DiaOk
                                                ((y12.fst.fst.fst, y12.fst.fst.snd.fst, y12.fst.fst.snd.snd.fst,
                                                    y12.fst.fst.snd.snd.snd),
                                                  ())).bind
                                            fun (y14 : (Bool × PUnit) × PUnit) =>
                                            bif !y14.fst.fst then some ((false, ()), ()) else l0 y2 y4 y6 y7 y8 y9 y10 y11 y12 (0 : Int)
def F (call : Cl) (k : Nat) (a0 : (List Int)) : Option R := Fm call k (fun y2_ y4_ y6_ y7_ y8_ y9_ y10_ y11_ y12_ v0_2_ => L0 call k y2_ y4_ y6_ y7_ y8_ y9_ y10_ y11_ y12_ k v0_2_) a0
theorem L0_eq (call : Cl) (k : Nat) (J : Nat → St → Option R) (a0 : (List Int)) (y2 : YLDiaBits_2) (y4 : YLDiaBits_0) (y6 : YLDiaBits_0) (y7 : YLDiaBits_2) (y8 : YLDiaBits_1) (y9 : YLDiaBits_1) (y10 : YLDiaBits_1) (y11 : YLDiaBits_1) (y12 : (((Int × (Int × ((List (Int × (Int × (Int × Unit)))) × Unit))) × Unit) × Unit)) : ∀ (n : Nat) (x : (Int)), siteI E call n_laws_FnDiaBits k s_laws_FnDiaBits (a0, ()) J 0 n (S0 y2 y4 y6 y7 y8 y9 y10 y11 y12 x) = L0 call k y2 y4 y6 y7 y8 y9 y10 y11 y12  n x := by
  refine loop_eq (E := E) (call := call) (f := n_laws_FnDiaBits) (k := k) (s := s_laws_FnDiaBits) (l := (a0, ())) (J := J) (i := 0) (X := (Int)) (fun x => S0 y2 y4 y6 y7 y8 y9 y10 y11 y12 x) (fun n x => L0 call k y2 y4 y6 y7 y8 y9 y10 y11 y12  n x) (fun r x => step0 call k y2 y4 y6 y7 y8 y9 y10 y11 y12   (fun v0_2 => r v0_2) x) ?_ ?_ ?_
  · intro x; rfl
  · intro n x; rfl
  intro J0 x
  kernel_rfl
theorem F_eq (call : Cl) (k : Nat) (a0 : (List Int)) : bodyK E call n_laws_FnDiaBits k s_laws_FnDiaBits (a0, ()) = F call k a0 := by
  exact Eq.trans (b := Fm call k (fun y2 y4 y6 y7 y8 y9 y10 y11 y12 v0_2_ => siteI E call n_laws_FnDiaBits k s_laws_FnDiaBits (a0, ()) (fun _ _ => none) 0 k (S0 y2 y4 y6 y7 y8 y9 y10 y11 y12 v0_2_)) a0) (by kernel_rfl) (congrArg (fun l => Fm call k l a0) (funext fun y2 => funext fun y4 => funext fun y6 => funext fun y7 => funext fun y8 => funext fun y9 => funext fun y10 => funext fun y11 => funext fun y12 => funext fun v0_2_ => L0_eq call k (fun _ _ => none) a0 y2 y4 y6 y7 y8 y9 y10 y11 y12 k v0_2_))
end laws_FnDiaBits
end Go.Proofs.Ytcmgjdmhemfecaa.Pf
