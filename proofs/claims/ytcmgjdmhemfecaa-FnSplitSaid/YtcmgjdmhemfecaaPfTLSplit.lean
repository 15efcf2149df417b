/- Printed texts: what the reading of these functions is. No condition. -/
import Derived.Test.YtcmgjdmhemfecaaPvEnv
import Derived.KernelRfl
set_option linter.unusedVariables false
namespace Go.Proofs.Ytcmgjdmhemfecaa.Pf
open Go Go.Pv
abbrev YLSplit_0 := (((List Int) × Unit) × Unit)
abbrev YLSplit_1 := (List (List Int))
/-! #### laws_FnSplit -/
namespace laws_FnSplit
abbrev R := ((Bool × Unit) × Unit)
def S1 (a0 : (List Int)) (v0_1 : Bool) (v0_2 : (List Bool)) (v0_3 : (List Int)) (v0_4 : Int) (v0_5 : YLSplit_1) (y13 : YLSplit_0) (v1_2 : Int) : St := ⟨mkS 165 [(0, .v (.slc (.int .u8)) (a0)), (3, .p [3] [] 0), (4, .ref [4]), (5, .ref [5]), (6, .v .bool (v0_1)), (7, .ref [7]), (8, .v (.int .i64) v1_2)], [([7], .list 2 (.int .i64) (y13.fst.fst)), ([5], .list 4 .bool (v0_2)), ([4], .list 2 (.int .i64) (v0_3)), ([3], .box (.v (.pair (.int .i64) (.pair (.slc (.slc (.int .i64))) .unit)) ((v0_4), ((v0_5), ()))))]⟩
def S0 (a0 : (List Int)) (v0_1 : Bool) (v0_2 : (List Bool)) (v0_3 : (List Int)) (v0_4 : Int) (v0_5 : YLSplit_1) : St := ⟨mkS 165 [(0, .v (.slc (.int .u8)) (a0)), (3, .p [3] [] 0), (4, .ref [4]), (5, .ref [5]), (6, .v .bool v0_1)], [([5], .list 4 .bool v0_2), ([4], .list 2 (.int .i64) v0_3), ([3], .box (.v (.pair (.int .i64) (.pair (.slc (.slc (.int .i64))) .unit)) (v0_4, (v0_5, ()))))]⟩
def step1 (call : Cl) (k : Nat) (a0 : (List Int)) (v0_1 : Bool) (v0_2 : (List Bool)) (v0_3 : (List Int)) (v0_4 : Int) (v0_5 : (List (List Int))) (y13 : (((List Int) × Unit) × Unit))   (r1 : (Int) → Option R) (v1_2 : Int) : Option R :=
    bif decide (v1_2 < (↑(List.length y13.fst.fst) : Int)) then
    bif decide ((0 : Int) ≤ v1_2) && decide (v1_2.toNat < List.length y13.fst.fst) then
      (lget y13.fst.fst v1_2.toNat).bind fun (y14 : Int) =>
        bif decide (y14 < (0 : Int)) then
          bif !v0_1 then some ((false, ()), ())
          else
            bif decide (IntKind.i64.wrap ((0 : Int) - y14) < (1 : Int)) then some ((false, ()), ())
            else
              bif decide (IntKind.i64.wrap ((0 : Int) - y14) > v0_4) then some ((false, ()), ())
              else
                bif
                    decide ((0 : Int) ≤ IntKind.i64.wrap (IntKind.i64.wrap ((0 : Int) - y14) - (1 : Int))) &&
                      decide
                        ((IntKind.i64.wrap (IntKind.i64.wrap ((0 : Int) - y14) - (1 : Int))).toNat < v0_2.length) then
                  (lget v0_2 (IntKind.i64.wrap (IntKind.i64.wrap ((0 : Int) - y14) - (1 : Int))).toNat).bind
                    fun (y15 : Bool) =>
                    bif decide ((0 : Int) ≤ v1_2) && decide (v1_2.toNat < List.length y13.fst.fst) then
                      (lget y13.fst.fst v1_2.toNat).bind fun (y16 : Int) =>
                        bif !y15 == decide (y16 > (0 : Int)) then some ((false, ()), ())
                        else r1 (IntKind.i64.wrap (v1_2 + (1 : Int)))
                    else none
                else none
        else
          bif !v0_1 then some ((false, ()), ())
          else
            bif decide (y14 < (1 : Int)) then some ((false, ()), ())
            else
              bif decide (y14 > v0_4) then some ((false, ()), ())
              else
                bif
                    decide ((0 : Int) ≤ IntKind.i64.wrap (y14 - (1 : Int))) &&
                      decide ((IntKind.i64.wrap (y14 - (1 : Int))).toNat < v0_2.length) then
                  (lget v0_2 (IntKind.i64.wrap (y14 - (1 : Int))).toNat).bind fun (y17 : Bool) =>
                    bif decide ((0 : Int) ≤ v1_2) && decide (v1_2.toNat < List.length y13.fst.fst) then
                      (lget y13.fst.fst v1_2.toNat).bind fun (y18 : Int) =>
                        bif !y17 == decide (y18 > (0 : Int)) then some ((false, ()), ())
                        else r1 (IntKind.i64.wrap (v1_2 + (1 : Int)))
                    else none
                else none
    else none
  else
    (call (37 : Nat) s_spec_UsedIn ((v0_4, v0_5, ()), ())).bind fun (y19 : (List Int × PUnit) × PUnit) =>
      bif (↑(List.length y19.fst.fst) : Int) == (0 : Int) then some ((true, ()), ())
      else
        bif (↑v0_5.length : Int) == (60 : Int) then some ((true, ()), ())
        else
          (call (54 : Nat) s_laws_roll (a0, (22 : Int), ())).bind
            fun (y20 : ((List Int × Int × Int × PUnit) × PUnit) × PUnit) =>
            (call (55 : Nat) s_laws_dice_below
                  ((y20.fst.fst.fst, y20.fst.fst.snd.fst, y20.fst.fst.snd.snd.fst, y20.fst.fst.snd.snd.snd),
                    (↑(List.length y19.fst.fst) : Int), ())).bind
              fun (y21 : (Int × PUnit) × (List Int × Int × Int × PUnit) × PUnit) =>
              bif decide ((0 : Int) ≤ y21.fst.fst) && decide (Int.toNat y21.fst.fst < List.length y19.fst.fst) then
                (lget y19.fst.fst (Int.toNat y21.fst.fst)).bind fun (y22 : Int) =>
                  bif decide (((0 : Nat) + v0_5.length) * ti41.bytes ≤ (140737488355328 : Nat)) then
                    bif decide ((([] ++ v0_5).length + [[y22]].length) * ti41.bytes ≤ (140737488355328 : Nat)) then
                      (call (79 : Nat) s_impl_CountCnf ((v0_4, [] ++ v0_5 ++ [[y22]], ()), ())).bind
                        fun (y23 : (List Int × PUnit) × PUnit) =>
                        bif decide (((0 : Nat) + v0_5.length) * ti41.bytes ≤ (140737488355328 : Nat)) then
                          bif
                              decide
                                ((([] ++ v0_5).length + [[IntKind.i64.wrap ((0 : Int) - y22)]].length) * ti41.bytes ≤
                                  (140737488355328 : Nat)) then
                            (call (79 : Nat) s_impl_CountCnf
                                  ((v0_4, [] ++ v0_5 ++ [[IntKind.i64.wrap ((0 : Int) - y22)]], ()), ())).bind
                              fun (y24 : (List Int × PUnit) × PUnit) =>
                              (call (85 : Nat) s_spec_AddNat (y23.fst.fst, y24.fst.fst, ())).bind
                                fun (y25 : (List Int × Bool × PUnit) × PUnit) =>
                                (call (84 : Nat) s_laws_likeInts (y25.fst.fst, v0_3, ())).bind
                                  fun (y26 : (Bool × PUnit) × PUnit) => some ((y26.fst.fst, ()), ())
                          else none
                        else none
                    else none
                  else none
              else none
def L1 (call : Cl) (k : Nat) (a0 : (List Int)) (v0_1 : Bool) (v0_2 : (List Bool)) (v0_3 : (List Int)) (v0_4 : Int) (v0_5 : (List (List Int))) (y13 : (((List Int) × Unit) × Unit))  : Nat → (Int) → Option R
    | 0, _ => none
    | n + 1, v1_2 => step1 call k a0 v0_1 v0_2 v0_3 v0_4 v0_5 y13   (L1 call k a0 v0_1 v0_2 v0_3 v0_4 v0_5 y13  n) v1_2
def step0 (call : Cl) (k : Nat) (a0 : (List Int))  (l1 : ((List Int)) → (Bool) → ((List Bool)) → ((List Int)) → (Int) → ((List (List Int))) → ((((List Int) × Unit) × Unit)) → (Int) → Option R)  (v0_1 : Bool) (v0_2 : (List Bool)) (v0_3 : (List Int)) (v0_4 : Int) (v0_5 : (List (List Int))) : Option R :=
    (call (77 : Nat) s_impl_ForcedIn ((v0_4, v0_5, ()), ())).bind fun (y13 : (List Int × PUnit) × PUnit) => l1 a0 v0_1 v0_2 v0_3 v0_4 v0_5 y13 (0 : Int)
def L0 (call : Cl) (k : Nat) (a0 : (List Int))  : Nat → (Bool) → ((List Bool)) → ((List Int)) → (Int) → ((List (List Int))) → Option R
    | 0, _, _, _, _, _ => none
    | n + 1, v0_1, v0_2, v0_3, v0_4, v0_5 => step0 call k a0  (fun a0_ v0_1_ v0_2_ v0_3_ v0_4_ v0_5_ y13_ v1_2_ => L1 call k a0_ v0_1_ v0_2_ v0_3_ v0_4_ v0_5_ y13_ k v1_2_) v0_1 v0_2 v0_3 v0_4 v0_5
def Fm (call : Cl) (k : Nat) (l0 : ((List Int)) → (Bool) → ((List Bool)) → ((List Int)) → (Int) → ((List (List Int))) → Option R) (a0 : (List Int)) : Option R :=
    (call (53 : Nat) s_laws_big (a0, ())).bind fun (y0 : (Bool × PUnit) × PUnit) =>
    bif y0.fst.fst then some ((true, ()), ())
    else
      (call (83 : Nat) s_spec_DrawCountCnf (a0, ())).bind fun (y1 : ((Int × List (List Int) × PUnit) × PUnit) × PUnit) =>
        (call (79 : Nat) s_impl_CountCnf (y1.fst.fst, ())).bind fun (y2 : (List Int × PUnit) × PUnit) =>
          (call (78 : Nat) s_spec_CountCnf (y1.fst.fst, ())).bind fun (y3 : (List Int × PUnit) × PUnit) =>
            (call (84 : Nat) s_laws_likeInts (y2.fst.fst, y3.fst.fst, ())).bind fun (y4 : (Bool × PUnit) × PUnit) =>
              bif !y4.fst.fst then some ((false, ()), ())
              else
                (call (35 : Nat) s_impl_CnfOk (y1.fst.fst, ())).bind fun (y5 : (Bool × PUnit) × PUnit) =>
                  (call (33 : Nat) s_spec_CnfOk (y1.fst.fst, ())).bind fun (y6 : (Bool × PUnit) × PUnit) =>
                    bif !y5.fst.fst == y6.fst.fst then some ((false, ()), ())
                    else
                      (call (71 : Nat) s_impl_FirstModel (y1.fst.fst, ())).bind
                        fun (y7 : (List Bool × Bool × PUnit) × PUnit) =>
                        (call (33 : Nat) s_spec_CnfOk (y1.fst.fst, ())).bind fun (y8 : (Bool × PUnit) × PUnit) =>
                          bif !y8.fst.fst then
                            bif !y7.fst.snd.fst then some (((↑(List.length y2.fst.fst) : Int) == (0 : Int), ()), ())
                            else some ((false, ()), ())
                          else
                            bif !y7.fst.snd.fst == decide ((↑(List.length y2.fst.fst) : Int) > (0 : Int)) then
                              some ((false, ()), ())
                            else
                              bif y7.fst.snd.fst then
                                (call (47 : Nat) s_spec_IsModel (y1.fst.fst, y7.fst.fst, ())).bind
                                  fun (y9 : (Bool × PUnit) × PUnit) =>
                                  bif !y9.fst.fst then some ((false, ()), ())
                                  else
                                    (call (38 : Nat) s_impl_UsedIn (y1.fst.fst, ())).bind
                                      fun (y10 : (List Int × PUnit) × PUnit) =>
                                      (call (37 : Nat) s_spec_UsedIn (y1.fst.fst, ())).bind
                                        fun (y11 : (List Int × PUnit) × PUnit) =>
                                        (call (84 : Nat) s_laws_likeInts (y10.fst.fst, y11.fst.fst, ())).bind
                                          fun (y12 : (Bool × PUnit) × PUnit) =>
                                          bif !y12.fst.fst then some ((false, ()), ())
                                          else l0 a0 y7.fst.snd.fst y7.fst.fst y2.fst.fst y1.fst.fst.fst y1.fst.fst.snd.fst
                              else
                                (call (38 : Nat) s_impl_UsedIn (y1.fst.fst, ())).bind
                                  fun (y27 : (List Int × PUnit) × PUnit) =>
                                  (call (37 : Nat) s_spec_UsedIn (y1.fst.fst, ())).bind
                                    fun (y28 : (List Int × PUnit) × PUnit) =>
                                    (call (84 : Nat) s_laws_likeInts (y27.fst.fst, y28.fst.fst, ())).bind
                                      fun (y29 : (Bool × PUnit) × PUnit) =>
                                      bif !y29.fst.fst then some ((false, ()), ())
                                      else l0 a0 y7.fst.snd.fst y7.fst.fst y2.fst.fst y1.fst.fst.fst y1.fst.fst.snd.fst
def F (call : Cl) (k : Nat) (a0 : (List Int)) : Option R := Fm call k (fun a0_ v0_1_ v0_2_ v0_3_ v0_4_ v0_5_ => L0 call k a0_ k v0_1_ v0_2_ v0_3_ v0_4_ v0_5_) a0
theorem L1_eq (call : Cl) (k : Nat) (J : Nat → St → Option R) (a0 : (List Int)) (v0_1 : Bool) (v0_2 : (List Bool)) (v0_3 : (List Int)) (v0_4 : Int) (v0_5 : YLSplit_1) (y13 : YLSplit_0) : ∀ (n : Nat) (x : (Int)), siteI E call n_laws_FnSplit k s_laws_FnSplit (a0, ()) J 1 n (S1 a0 v0_1 v0_2 v0_3 v0_4 v0_5 y13 x) = L1 call k a0 v0_1 v0_2 v0_3 v0_4 v0_5 y13  n x := by
  refine loop_eq (E := E) (call := call) (f := n_laws_FnSplit) (k := k) (s := s_laws_FnSplit) (l := (a0, ())) (J := J) (i := 1) (X := (Int)) (fun x => S1 a0 v0_1 v0_2 v0_3 v0_4 v0_5 y13 x) (fun n x => L1 call k a0 v0_1 v0_2 v0_3 v0_4 v0_5 y13  n x) (fun r x => step1 call k a0 v0_1 v0_2 v0_3 v0_4 v0_5 y13   (fun v1_2 => r v1_2) x) ?_ ?_ ?_
  · intro x; rfl
  · intro n x; rfl
  intro J0 x
  kernel_rfl
theorem L0_eq (call : Cl) (k : Nat) (J : Nat → St → Option R) (a0 : (List Int)) : ∀ (n : Nat) (x : ((Bool) × ((List Bool)) × ((List Int)) × (Int) × (YLSplit_1))), siteX E call n_laws_FnSplit k s_laws_FnSplit (a0, ()) J 0 n (S0 a0 x.1 x.2.1 x.2.2.1 x.2.2.2.1 x.2.2.2.2) = L0 call k a0  n x.1 x.2.1 x.2.2.1 x.2.2.2.1 x.2.2.2.2 := by
  refine cut_eq (E := E) (call := call) (f := n_laws_FnSplit) (k := k) (s := s_laws_FnSplit) (l := (a0, ())) (J := J) (i := 0) (X := ((Bool) × ((List Bool)) × ((List Int)) × (Int) × (YLSplit_1))) (fun x => S0 a0 x.1 x.2.1 x.2.2.1 x.2.2.2.1 x.2.2.2.2) (fun n x => L0 call k a0  n x.1 x.2.1 x.2.2.1 x.2.2.2.1 x.2.2.2.2) (fun x => step0 call k a0  (fun (a0 : (List Int)) (v0_1 : Bool) (v0_2 : (List Bool)) (v0_3 : (List Int)) (v0_4 : Int) (v0_5 : YLSplit_1) (y13 : YLSplit_0) (v1_2_ : Int) => L1 call k a0 v0_1 v0_2 v0_3 v0_4 v0_5 y13 k v1_2_) x.1 x.2.1 x.2.2.1 x.2.2.2.1 x.2.2.2.2) ?_ ?_ ?_
  · intro x; rfl
  · intro n x; rfl
  rintro ⟨v0_1, v0_2, v0_3, v0_4, v0_5⟩
  exact Eq.trans (b := step0 call k a0  (fun a0 v0_1 v0_2 v0_3 v0_4 v0_5 y13 v1_2_ => siteI E call n_laws_FnSplit k s_laws_FnSplit (a0, ()) J 1 k (S1 a0 v0_1 v0_2 v0_3 v0_4 v0_5 y13 v1_2_)) v0_1 v0_2 v0_3 v0_4 v0_5) (by kernel_rfl) (congrArg (fun l => step0 call k a0  l v0_1 v0_2 v0_3 v0_4 v0_5) (funext fun a0 => funext fun v0_1 => funext fun v0_2 => funext fun v0_3 => funext fun v0_4 => funext fun v0_5 => funext fun y13 => funext fun v1_2_ => L1_eq call k J a0 v0_1 v0_2 v0_3 v0_4 v0_5 y13 k v1_2_))
theorem F_eq (call : Cl) (k : Nat) (a0 : (List Int)) : bodyK E call n_laws_FnSplit k s_laws_FnSplit (a0, ()) = F call k a0 := by
  exact Eq.trans (b := Fm call k (fun a0 v0_1_ v0_2_ v0_3_ v0_4_ v0_5_ => siteX E call n_laws_FnSplit k s_laws_FnSplit (a0, ()) (fun _ _ => none) 0 k (S0 a0 v0_1_ v0_2_ v0_3_ v0_4_ v0_5_)) a0) (by kernel_rfl) (congrArg (fun l => Fm call k l a0) (funext fun a0 => funext fun v0_1_ => funext fun v0_2_ => funext fun v0_3_ => funext fun v0_4_ => funext fun v0_5_ => L0_eq call k (fun _ _ => none) a0 k (v0_1_, v0_2_, v0_3_, v0_4_, v0_5_)))
end laws_FnSplit
end Go.Proofs.Ytcmgjdmhemfecaa.Pf
