/- Printed texts: what the reading of these functions is. No condition. -/
import Derived.Test.YtcmgjdmhemfecaaPvEnv
import Derived.KernelRfl
set_option linter.unusedVariables false
namespace Go.Proofs.Ytcmgjdmhemfecaa.Pf
open Go Go.Pv
abbrev Y8_0 := ((((List Int) × ((List Int) × Unit)) × Unit) × Unit)
abbrev Y8_1 := (((List (List Bool)) × Unit) × Unit)
abbrev Y8_2 := (Int × ((List (List Int)) × Unit))
abbrev Y8_3 := ((Int) × (Int) × (Int))
abbrev Y8_4 := (List (Int × Bool))
abbrev Y8_5 := (List (List Bool))
/-! #### spec_PatternsOf -/
namespace spec_PatternsOf
abbrev R := (((List Int) × Unit) × Unit)
def S2 (v0_1 : Int) (v0_3 : (List Int)) (y12 : Y8_1) (v1_2 : Int) (v1_3 : Y8_5) (v2_3 : Bool) (v2_4 : Int) : St := ⟨mkS 123 [(6, .ref [6]), (7, .v (.int .i64) (v0_1)), (9, .v (.slc (.slc .bool)) (y12.fst.fst)), (10, .ref [10]), (11, .v (.int .i64) (v1_2)), (12, .v .bool v2_3), (13, .v (.int .i64) v2_4)], [([10], .list 53 (.slc .bool) (v1_3)), ([6], .list 2 (.int .i64) (v0_3))]⟩
def S1 (v0_1 : Int) (v0_3 : (List Int)) (y12 : Y8_1) (v1_2 : Int) (v1_3 : Y8_5) : St := ⟨mkS 123 [(6, .ref [6]), (7, .v (.int .i64) (v0_1)), (9, .v (.slc (.slc .bool)) (y12.fst.fst)), (10, .ref [10]), (11, .v (.int .i64) v1_2)], [([10], .list 53 (.slc .bool) v1_3), ([6], .list 2 (.int .i64) (v0_3))]⟩
def S0 (a0 : Y8_2) (a1 : (List Int)) (y1 : (((List Int) × Unit) × Unit)) (v0_1 : Int) (v0_2 : Int) (v0_3 : (List Int)) : St := ⟨mkS 123 [(1, .v (.slc (.int .i64)) (a1)), (2, .p [2] [] 0), (5, .ref [5]), (6, .ref [6]), (7, .v (.int .i64) v0_1), (8, .v (.int .i64) v0_2)], [([6], .list 2 (.int .i64) v0_3), ([5], .list 2 (.int .i64) (y1.fst.fst)), ([2], .box (.v (.pair (.int .i64) (.pair (.slc (.slc (.int .i64))) .unit)) ((a0.fst), ((a0.snd.fst), ()))))]⟩
def step2 (call : Cl) (k : Nat) (v0_3 : (List Int)) (y12 : (((List (List Bool)) × Unit) × Unit)) (v1_2 : Int) (v1_3 : (List (List Bool))) (r1 : (Int) → ((List (List Bool))) → Option R)  (r2 : (Bool) → (Int) → Option R) (v2_3 : Bool) (v2_4 : Int) : Option R :=
    bif decide (v2_4 < (↑v1_3.length : Int)) then
    bif !v2_3 then
      bif decide ((0 : Int) ≤ v2_4) && decide (v2_4.toNat < v1_3.length) then
        (lget v1_3 v2_4.toNat).bind fun (y13 : List Bool) =>
          bif decide ((0 : Int) ≤ v1_2) then
            (lget y12.fst.fst v1_2.toNat).bind fun (y14 : List Bool) =>
              (call (138 : Nat) s_spec_l14Like (y13, y14, v0_3, ())).bind fun (y15 : (Bool × PUnit) × PUnit) =>
                r2 y15.fst.fst (IntKind.i64.wrap (v2_4 + (1 : Int)))
          else none
      else none
    else
      bif !v2_3 then
        bif decide ((0 : Int) ≤ v1_2) then
          (lget y12.fst.fst v1_2.toNat).bind fun (y16 : List Bool) =>
            bif decide ((v1_3.length + [y16].length) * ti53.bytes ≤ (140737488355328 : Nat)) then
              r1 (IntKind.i64.wrap (v1_2 + (1 : Int))) (v1_3 ++ [y16])
            else none
        else none
      else r1 (IntKind.i64.wrap (v1_2 + (1 : Int))) v1_3
  else
    bif !v2_3 then
      bif decide ((0 : Int) ≤ v1_2) then
        (lget y12.fst.fst v1_2.toNat).bind fun (y17 : List Bool) =>
          bif decide ((v1_3.length + [y17].length) * ti53.bytes ≤ (140737488355328 : Nat)) then
            r1 (IntKind.i64.wrap (v1_2 + (1 : Int))) (v1_3 ++ [y17])
          else none
      else none
    else r1 (IntKind.i64.wrap (v1_2 + (1 : Int))) v1_3
def L2 (call : Cl) (k : Nat) (v0_3 : (List Int)) (y12 : (((List (List Bool)) × Unit) × Unit)) (v1_2 : Int) (v1_3 : (List (List Bool))) (r1 : (Int) → ((List (List Bool))) → Option R) : Nat → (Bool) → (Int) → Option R
    | 0, _, _ => none
    | n + 1, v2_3, v2_4 => step2 call k v0_3 y12 v1_2 v1_3 r1  (L2 call k v0_3 y12 v1_2 v1_3 r1 n) v2_3 v2_4
def step1 (call : Cl) (k : Nat) (v0_1 : Int) (y12 : (((List (List Bool)) × Unit) × Unit)) (v0_3 : (List Int))  (l2 : ((List Int)) → ((((List (List Bool)) × Unit) × Unit)) → (Int) → ((List (List Bool))) → (Bool) → (Int) → Option R) (r1 : (Int) → ((List (List Bool))) → Option R) (v1_2 : Int) (v1_3 : (List (List Bool))) : Option R :=
    bif decide (v1_2 < (↑(List.length y12.fst.fst) : Int)) then l2 v0_3 y12 v1_2 v1_3 false (0 : Int)
  else
    (call (133 : Nat) s_spec_PowerNat (v0_1, ())).bind fun (y18 : (List Int × Bool × PUnit) × PUnit) =>
      (call (135 : Nat) s_spec_NatOf ((↑v1_3.length : Int), ())).bind fun (y19 : (List Int × PUnit) × PUnit) =>
        (call (134 : Nat) s_spec_MulNat (y19.fst.fst, y18.fst.fst, ())).bind
          fun (y20 : (List Int × Bool × PUnit) × PUnit) => some ((y20.fst.fst, ()), ())
def L1 (call : Cl) (k : Nat) (v0_1 : Int) (y12 : (((List (List Bool)) × Unit) × Unit)) (v0_3 : (List Int))  : Nat → (Int) → ((List (List Bool))) → Option R
    | 0, _, _ => none
    | n + 1, v1_2, v1_3 => step1 call k v0_1 y12 v0_3  (fun v0_3_ y12_ v1_2_ v1_3_ v2_3_ v2_4_ => L2 call k v0_3_ y12_ v1_2_ v1_3_ (L1 call k v0_1 y12 v0_3  n) k v2_3_ v2_4_) (L1 call k v0_1 y12 v0_3  n) v1_2 v1_3
def step0 (call : Cl) (k : Nat) (a0 : (Int × ((List (List Int)) × Unit))) (a1 : (List Int)) (y1 : (((List Int) × Unit) × Unit))  (l1 : (Int) → ((((List (List Bool)) × Unit) × Unit)) → ((List Int)) → (Int) → ((List (List Bool))) → Option R) (r0 : (Int) → (Int) → ((List Int)) → Option R) (v0_1 : Int) (v0_2 : Int) (v0_3 : (List Int)) : Option R :=
    bif decide (v0_2 < (↑a1.length : Int)) then
    bif decide ((0 : Int) ≤ v0_2) then
      (lget a1 v0_2.toNat).bind fun (y2 : Int) =>
        (call (88 : Nat) s_spec_l1In (y2, (1 : Int), a0.fst, ())).bind fun (y3 : (Bool × PUnit) × PUnit) =>
          bif !y3.fst.fst then some (([], ()), ())
          else
            bif decide (v0_2 > (0 : Int)) then
              bif decide ((0 : Int) ≤ v0_2) then
                (lget a1 v0_2.toNat).bind fun (y4 : Int) =>
                  bif decide ((0 : Int) ≤ IntKind.i64.wrap (v0_2 - (1 : Int))) then
                    (lget a1 (IntKind.i64.wrap (v0_2 - (1 : Int))).toNat).bind fun (y5 : Int) =>
                      bif decide (y4 ≤ y5) then some (([], ()), ())
                      else
                        bif decide ((0 : Int) ≤ v0_2) then
                          (lget a1 v0_2.toNat).bind fun (y6 : Int) =>
                            (call (137 : Nat) s_spec_l2In (y1.fst.fst, y6, ())).bind fun (y7 : (Bool × PUnit) × PUnit) =>
                              bif y7.fst.fst then
                                bif decide ((0 : Int) ≤ v0_2) then
                                  (lget a1 v0_2.toNat).bind fun (y8 : Int) =>
                                    bif decide ((v0_3.length + [y8].length) * ti2.bytes ≤ (140737488355328 : Nat)) then
                                      r0 v0_1 (IntKind.i64.wrap (v0_2 + (1 : Int))) (v0_3 ++ [y8])
                                    else none
                                else none
                              else r0 (IntKind.i64.wrap (v0_1 + (1 : Int))) (IntKind.i64.wrap (v0_2 + (1 : Int))) v0_3
                        else none
                  else none
              else none
            else
              bif decide ((0 : Int) ≤ v0_2) then
                (lget a1 v0_2.toNat).bind fun (y9 : Int) =>
                  (call (137 : Nat) s_spec_l2In (y1.fst.fst, y9, ())).bind fun (y10 : (Bool × PUnit) × PUnit) =>
                    bif y10.fst.fst then
                      bif decide ((0 : Int) ≤ v0_2) then
                        (lget a1 v0_2.toNat).bind fun (y11 : Int) =>
                          bif decide ((v0_3.length + [y11].length) * ti2.bytes ≤ (140737488355328 : Nat)) then
                            r0 v0_1 (IntKind.i64.wrap (v0_2 + (1 : Int))) (v0_3 ++ [y11])
                          else none
                      else none
                    else r0 (IntKind.i64.wrap (v0_1 + (1 : Int))) (IntKind.i64.wrap (v0_2 + (1 : Int))) v0_3
              else none
    else none
  else
    (call (126 : Nat) s_spec_l14Models ((a0.fst, a0.snd.fst, ()), ())).bind
      fun (y12 : (List (List Bool) × PUnit) × PUnit) => l1 v0_1 y12 v0_3 (0 : Int) []
def L0 (call : Cl) (k : Nat) (a0 : (Int × ((List (List Int)) × Unit))) (a1 : (List Int)) (y1 : (((List Int) × Unit) × Unit))  : Nat → (Int) → (Int) → ((List Int)) → Option R
    | 0, _, _, _ => none
    | n + 1, v0_1, v0_2, v0_3 => step0 call k a0 a1 y1  (fun v0_1_ y12_ v0_3_ v1_2_ v1_3_ => L1 call k v0_1_ y12_ v0_3_ k v1_2_ v1_3_) (L0 call k a0 a1 y1  n) v0_1 v0_2 v0_3
def Fm (call : Cl) (k : Nat) (l0 : ((Int × ((List (List Int)) × Unit))) → ((List Int)) → ((((List Int) × Unit) × Unit)) → (Int) → (Int) → ((List Int)) → Option R) (a0 : (Int × ((List (List Int)) × Unit))) (a1 : (List Int)) : Option R :=
    (call (33 : Nat) s_spec_CnfOk (a0, ())).bind fun (y0 : (Bool × PUnit) × PUnit) =>
    bif !y0.fst.fst then some (([], ()), ())
    else
      (call (96 : Nat) s_spec_l14Used (a0, ())).bind fun (y1 : (List Int × PUnit) × PUnit) => l0 a0 a1 y1 (0 : Int) (0 : Int) []
def F (call : Cl) (k : Nat) (a0 : (Int × ((List (List Int)) × Unit))) (a1 : (List Int)) : Option R := Fm call k (fun a0_ a1_ y1_ v0_1_ v0_2_ v0_3_ => L0 call k a0_ a1_ y1_ k v0_1_ v0_2_ v0_3_) a0 a1
theorem L2_eq (call : Cl) (k : Nat) (J : Nat → St → Option R) (a0 : Y8_2) (a1 : (List Int)) (v0_1 : Int) (v0_3 : (List Int)) (y12 : Y8_1) (v1_2 : Int) (v1_3 : Y8_5) : ∀ (n : Nat) (x : ((Bool) × (Int))), siteI E call n_spec_PatternsOf k s_spec_PatternsOf (a0, a1, ()) J 2 n (S2 v0_1 v0_3 y12 v1_2 v1_3 x.1 x.2) = L2 call k v0_3 y12 v1_2 v1_3 (fun v1_2_ v1_3_ => J 1 (S1 v0_1 v0_3 y12 v1_2_ v1_3_)) n x.1 x.2 := by
  refine loop_eq (E := E) (call := call) (f := n_spec_PatternsOf) (k := k) (s := s_spec_PatternsOf) (l := (a0, a1, ())) (J := J) (i := 2) (X := ((Bool) × (Int))) (fun x => S2 v0_1 v0_3 y12 v1_2 v1_3 x.1 x.2) (fun n x => L2 call k v0_3 y12 v1_2 v1_3 (fun v1_2_ v1_3_ => J 1 (S1 v0_1 v0_3 y12 v1_2_ v1_3_)) n x.1 x.2) (fun r x => step2 call k v0_3 y12 v1_2 v1_3 (fun v1_2_ v1_3_ => J 1 (S1 v0_1 v0_3 y12 v1_2_ v1_3_))  (fun v2_3 v2_4 => r (v2_3, v2_4)) x.1 x.2) ?_ ?_ ?_
  · intro x; rfl
  · intro n x; rfl
  intro J0 x
  kernel_rfl
theorem L1_eq (call : Cl) (k : Nat) (J : Nat → St → Option R) (a0 : Y8_2) (a1 : (List Int)) (v0_1 : Int) (v0_3 : (List Int)) (y12 : Y8_1) : ∀ (n : Nat) (x : ((Int) × (Y8_5))), siteI E call n_spec_PatternsOf k s_spec_PatternsOf (a0, a1, ()) J 1 n (S1 v0_1 v0_3 y12 x.1 x.2) = L1 call k v0_1 y12 v0_3  n x.1 x.2 := by
  refine loop_eq (E := E) (call := call) (f := n_spec_PatternsOf) (k := k) (s := s_spec_PatternsOf) (l := (a0, a1, ())) (J := J) (i := 1) (X := ((Int) × (Y8_5))) (fun x => S1 v0_1 v0_3 y12 x.1 x.2) (fun n x => L1 call k v0_1 y12 v0_3  n x.1 x.2) (fun r x => step1 call k v0_1 y12 v0_3  (fun (v0_3 : (List Int)) (y12 : Y8_1) (v1_2 : Int) (v1_3 : Y8_5) (v2_3_ : Bool) (v2_4_ : Int) => L2 call k v0_3 y12 v1_2 v1_3 (fun v1_2_ v1_3_ => r (v1_2_, v1_3_)) k v2_3_ v2_4_) (fun v1_2 v1_3 => r (v1_2, v1_3)) x.1 x.2) ?_ ?_ ?_
  · intro x; rfl
  · intro n x; rfl
  intro J0 x
  refine Eq.trans (b := step1 call k v0_1 y12 v0_3  (fun v0_3 y12 v1_2 v1_3 v2_3_ v2_4_ => siteI E call n_spec_PatternsOf k s_spec_PatternsOf (a0, a1, ()) (upJ 1 J0 J) 2 k (S2 v0_1 v0_3 y12 v1_2 v1_3 v2_3_ v2_4_)) (fun v1_2 v1_3 => J0 (S1 v0_1 v0_3 y12 v1_2 v1_3)) x.1 x.2) (by kernel_rfl) ?_
  rw [show (fun (v0_3 : (List Int)) (y12 : Y8_1) (v1_2 : Int) (v1_3 : Y8_5) (v2_3_ : Bool) (v2_4_ : Int) => siteI E call n_spec_PatternsOf k s_spec_PatternsOf (a0, a1, ()) (upJ 1 J0 J) 2 k (S2 v0_1 v0_3 y12 v1_2 v1_3 v2_3_ v2_4_)) = (fun (v0_3 : (List Int)) (y12 : Y8_1) (v1_2 : Int) (v1_3 : Y8_5) (v2_3_ : Bool) (v2_4_ : Int) => L2 call k v0_3 y12 v1_2 v1_3 (fun v1_2_ v1_3_ => (upJ 1 J0 J) 1 (S1 v0_1 v0_3 y12 v1_2_ v1_3_)) k v2_3_ v2_4_) from funext fun v0_3 => funext fun y12 => funext fun v1_2 => funext fun v1_3 => funext fun v2_3_ => funext fun v2_4_ => L2_eq call k (upJ 1 J0 J) a0 a1 v0_1 v0_3 y12 v1_2 v1_3 k (v2_3_, v2_4_)]
  all_goals rfl
theorem L0_eq (call : Cl) (k : Nat) (J : Nat → St → Option R) (a0 : Y8_2) (a1 : (List Int)) (y1 : (((List Int) × Unit) × Unit)) : ∀ (n : Nat) (x : ((Int) × (Int) × ((List Int)))), siteI E call n_spec_PatternsOf k s_spec_PatternsOf (a0, a1, ()) J 0 n (S0 a0 a1 y1 x.1 x.2.1 x.2.2) = L0 call k a0 a1 y1  n x.1 x.2.1 x.2.2 := by
  refine loop_eq (E := E) (call := call) (f := n_spec_PatternsOf) (k := k) (s := s_spec_PatternsOf) (l := (a0, a1, ())) (J := J) (i := 0) (X := ((Int) × (Int) × ((List Int)))) (fun x => S0 a0 a1 y1 x.1 x.2.1 x.2.2) (fun n x => L0 call k a0 a1 y1  n x.1 x.2.1 x.2.2) (fun r x => step0 call k a0 a1 y1  (fun (v0_1 : Int) (y12 : Y8_1) (v0_3 : (List Int)) (v1_2_ : Int) (v1_3_ : Y8_5) => L1 call k v0_1 y12 v0_3 k v1_2_ v1_3_) (fun v0_1 v0_2 v0_3 => r (v0_1, v0_2, v0_3)) x.1 x.2.1 x.2.2) ?_ ?_ ?_
  · intro x; rfl
  · intro n x; rfl
  intro J0 x
  refine Eq.trans (b := step0 call k a0 a1 y1  (fun v0_1 y12 v0_3 v1_2_ v1_3_ => siteI E call n_spec_PatternsOf k s_spec_PatternsOf (a0, a1, ()) (upJ 0 J0 J) 1 k (S1 v0_1 v0_3 y12 v1_2_ v1_3_)) (fun v0_1 v0_2 v0_3 => J0 (S0 a0 a1 y1 v0_1 v0_2 v0_3)) x.1 x.2.1 x.2.2) (by kernel_rfl) ?_
  rw [show (fun (v0_1 : Int) (y12 : Y8_1) (v0_3 : (List Int)) (v1_2_ : Int) (v1_3_ : Y8_5) => siteI E call n_spec_PatternsOf k s_spec_PatternsOf (a0, a1, ()) (upJ 0 J0 J) 1 k (S1 v0_1 v0_3 y12 v1_2_ v1_3_)) = (fun (v0_1 : Int) (y12 : Y8_1) (v0_3 : (List Int)) (v1_2_ : Int) (v1_3_ : Y8_5) => L1 call k v0_1 y12 v0_3 k v1_2_ v1_3_) from funext fun v0_1 => funext fun y12 => funext fun v0_3 => funext fun v1_2_ => funext fun v1_3_ => L1_eq call k (upJ 0 J0 J) a0 a1 v0_1 v0_3 y12 k (v1_2_, v1_3_)]
  all_goals rfl
theorem F_eq (call : Cl) (k : Nat) (a0 : Y8_2) (a1 : (List Int)) : bodyK E call n_spec_PatternsOf k s_spec_PatternsOf (a0, a1, ()) = F call k a0 a1 := by
  exact Eq.trans (b := Fm call k (fun a0 a1 y1 v0_1_ v0_2_ v0_3_ => siteI E call n_spec_PatternsOf k s_spec_PatternsOf (a0, a1, ()) (fun _ _ => none) 0 k (S0 a0 a1 y1 v0_1_ v0_2_ v0_3_)) a0 a1) (by kernel_rfl) (congrArg (fun l => Fm call k l a0 a1) (funext fun a0 => funext fun a1 => funext fun y1 => funext fun v0_1_ => funext fun v0_2_ => funext fun v0_3_ => L0_eq call k (fun _ _ => none) a0 a1 y1 k (v0_1_, v0_2_, v0_3_)))
end spec_PatternsOf
/-! #### impl_PatternsOf -/
namespace impl_PatternsOf
abbrev R := (((List Int) × Unit) × Unit)
def S2 (a1 : (List Int)) (y3 : Y8_0) (v1_4 : Int) (y4 : Int) (v2_1 : Int) (v2_2 : Int) (v2_9 : Int) : St := ⟨mkS 99 [(1, .v (.slc (.int .i64)) (a1)), (7, .p [7] [] 0), (8, .v (.int .i64) v2_1), (9, .v (.int .i64) v2_2), (10, .v (.int .i64) (v1_4)), (11, .v (.int .i64) (y4)), (53, .ref [7, 5, 0]), (54, .v (.int .i64) ((↑(List.length y3.fst.fst.fst) : Int))), (55, .v (.int .i64) (v1_4)), (60, .v (.slc (.int .i64)) (a1)), (61, .v (.int .i64) ((↑a1.length : Int))), (62, .v (.int .i64) v2_9)], [([7, 5, 1, 0], .list 3 (.int .i64) (y3.fst.fst.snd.fst)), ([7, 5, 0], .list 2 (.int .i64) (y3.fst.fst.fst)), ([7], .box (.pr (.ref [7, 5, 0]) (.pr (.ref [7, 5, 1, 0]) (.v .unit ()))))]⟩
def S3 (y3 : Y8_0) (v1_1 : Int) (v1_2 : Int) (v3_3 : Int) (v3_5 : Y8_4) : St := ⟨mkS 99 [(8, .v (.int .i64) (v1_1)), (9, .v (.int .i64) (v1_2)), (14, .ref [14]), (84, .ref [84]), (85, .v (.int .i64) ((↑(List.length y3.fst.fst.snd.fst) : Int))), (86, .v (.int .i64) v3_3)], [([84], .list 3 (.int .i64) (y3.fst.fst.snd.fst)), ([14], .map 140 (.int .i64) .bool v3_5)]⟩
def S1 (a1 : (List Int)) (y3 : Y8_0) (v1_1 : Int) (v1_2 : Int) (v1_4 : Int) : St := ⟨mkS 99 [(1, .v (.slc (.int .i64)) (a1)), (7, .p [7] [] 0), (8, .v (.int .i64) v1_1), (9, .v (.int .i64) v1_2), (53, .ref [7, 5, 0]), (54, .v (.int .i64) ((↑(List.length y3.fst.fst.fst) : Int))), (55, .v (.int .i64) v1_4)], [([7, 5, 1, 0], .list 3 (.int .i64) (y3.fst.fst.snd.fst)), ([7, 5, 0], .list 2 (.int .i64) (y3.fst.fst.fst)), ([7], .box (.pr (.ref [7, 5, 0]) (.pr (.ref [7, 5, 1, 0]) (.v .unit ()))))]⟩
def S0 (a0 : Y8_2) (a1 : (List Int)) (v0_3 : Int) : St := ⟨mkS 99 [(1, .v (.slc (.int .i64)) (a1)), (2, .p [2] [] 0), (20, .v (.slc (.int .i64)) (a1)), (21, .v (.int .i64) ((↑a1.length : Int))), (22, .v (.int .i64) v0_3)], [([2], .box (.v (.pair (.int .i64) (.pair (.slc (.slc (.int .i64))) .unit)) ((a0.fst), ((a0.snd.fst), ()))))]⟩
def step2 (call : Cl) (k : Nat) (a1 : (List Int)) (y3 : ((((List Int) × ((List Int) × Unit)) × Unit) × Unit)) (v1_4 : Int) (y4 : Int) (r1 : (Int) → (Int) → (Int) → Option R)  (r2 : (Int) → (Int) → (Int) → Option R) (v2_1 : Int) (v2_2 : Int) (v2_9 : Int) : Option R :=
    bif decide (v2_9 < (↑a1.length : Int)) then
    bif decide ((0 : Int) ≤ v2_9) then
      (lget a1 v2_9.toNat).bind fun (y5 : Int) =>
        bif y5 == y4 then
          bif
              decide
                (IntKind.i64.wrap (IntKind.i64.wrap ((↑(List.length y3.fst.fst.fst) : Int) - (1 : Int)) - v1_4) <
                  (0 : Int)) then
            none
          else
            r2
              (bitsI BinOp.or IntKind.i64 v2_1
                (shlI IntKind.i64 (1 : Int)
                  (IntKind.i64.wrap (IntKind.i64.wrap ((↑(List.length y3.fst.fst.fst) : Int) - (1 : Int)) - v1_4))))
              (IntKind.i64.wrap (v2_2 - (1 : Int))) (IntKind.i64.wrap (v2_9 + (1 : Int)))
        else r2 v2_1 v2_2 (IntKind.i64.wrap (v2_9 + (1 : Int)))
    else none
  else r1 v2_1 v2_2 (IntKind.i64.wrap (v1_4 + (1 : Int)))
def L2 (call : Cl) (k : Nat) (a1 : (List Int)) (y3 : ((((List Int) × ((List Int) × Unit)) × Unit) × Unit)) (v1_4 : Int) (y4 : Int) (r1 : (Int) → (Int) → (Int) → Option R) : Nat → (Int) → (Int) → (Int) → Option R
    | 0, _, _, _ => none
    | n + 1, v2_1, v2_2, v2_9 => step2 call k a1 y3 v1_4 y4 r1  (L2 call k a1 y3 v1_4 y4 r1 n) v2_1 v2_2 v2_9
def step3 (call : Cl) (k : Nat) (y3 : ((((List Int) × ((List Int) × Unit)) × Unit) × Unit)) (v1_1 : Int) (v1_2 : Int)   (r3 : (Int) → ((List (Int × Bool))) → Option R) (v3_3 : Int) (v3_5 : (List (Int × Bool))) : Option R :=
    bif decide (v3_3 < (↑(List.length y3.fst.fst.snd.fst) : Int)) then
    bif decide ((0 : Int) ≤ v3_3) && decide (v3_3.toNat < List.length y3.fst.fst.snd.fst) then
      (lget y3.fst.fst.snd.fst v3_3.toNat).bind fun (y6 : Int) =>
        r3 (IntKind.i64.wrap (v3_3 + (1 : Int))) (mput ti3.zero.t v3_5 (bitsI BinOp.and IntKind.i64 y6 v1_1) true)
    else none
  else
    bif decide (v3_5.length ≤ (9223372036854775807 : Nat)) then
      (call (136 : Nat) s_impl_doubled ((↑v3_5.length : Int), v1_2, ())).bind fun (y7 : (List Int × PUnit) × PUnit) =>
        some ((y7.fst.fst, ()), ())
    else none
def L3 (call : Cl) (k : Nat) (y3 : ((((List Int) × ((List Int) × Unit)) × Unit) × Unit)) (v1_1 : Int) (v1_2 : Int)  : Nat → (Int) → ((List (Int × Bool))) → Option R
    | 0, _, _ => none
    | n + 1, v3_3, v3_5 => step3 call k y3 v1_1 v1_2   (L3 call k y3 v1_1 v1_2  n) v3_3 v3_5
def step1 (call : Cl) (k : Nat) (y3 : ((((List Int) × ((List Int) × Unit)) × Unit) × Unit)) (a1 : (List Int))  (l2 : ((List Int)) → (((((List Int) × ((List Int) × Unit)) × Unit) × Unit)) → (Int) → (Int) → (Int) → (Int) → (Int) → Option R) (l3 : (((((List Int) × ((List Int) × Unit)) × Unit) × Unit)) → (Int) → (Int) → (Int) → ((List (Int × Bool))) → Option R) (r1 : (Int) → (Int) → (Int) → Option R) (v1_1 : Int) (v1_2 : Int) (v1_4 : Int) : Option R :=
    bif decide (v1_4 < (↑(List.length y3.fst.fst.fst) : Int)) then
    bif decide ((0 : Int) ≤ v1_4) && decide (v1_4.toNat < List.length y3.fst.fst.fst) then
      (lget y3.fst.fst.fst v1_4.toNat).bind fun (y4 : Int) => l2 a1 y3 v1_4 y4 v1_1 v1_2 (0 : Int)
    else none
  else l3 y3 v1_1 v1_2 (0 : Int) []
def L1 (call : Cl) (k : Nat) (y3 : ((((List Int) × ((List Int) × Unit)) × Unit) × Unit)) (a1 : (List Int))  : Nat → (Int) → (Int) → (Int) → Option R
    | 0, _, _, _ => none
    | n + 1, v1_1, v1_2, v1_4 => step1 call k y3 a1  (fun a1_ y3_ v1_4_ y4_ v2_1_ v2_2_ v2_9_ => L2 call k a1_ y3_ v1_4_ y4_ (L1 call k y3 a1  n) k v2_1_ v2_2_ v2_9_) (fun y3_ v1_1_ v1_2_ v3_3_ v3_5_ => L3 call k y3_ v1_1_ v1_2_ k v3_3_ v3_5_) (L1 call k y3 a1  n) v1_1 v1_2 v1_4
def step0 (call : Cl) (k : Nat) (a0 : (Int × ((List (List Int)) × Unit))) (a1 : (List Int))  (l1 : (((((List Int) × ((List Int) × Unit)) × Unit) × Unit)) → ((List Int)) → (Int) → (Int) → (Int) → Option R) (r0 : (Int) → Option R) (v0_3 : Int) : Option R :=
    bif decide (v0_3 < (↑a1.length : Int)) then
    bif decide ((0 : Int) ≤ v0_3) then
      (lget a1 v0_3.toNat).bind fun (y1 : Int) =>
        bif decide (y1 < (1 : Int)) then some (([], ()), ())
        else
          bif decide (y1 > a0.fst) then some (([], ()), ())
          else
            bif decide (v0_3 > (0 : Int)) then
              bif decide ((0 : Int) ≤ IntKind.i64.wrap (v0_3 - (1 : Int))) then
                (lget a1 (IntKind.i64.wrap (v0_3 - (1 : Int))).toNat).bind fun (y2 : Int) =>
                  bif decide (y1 ≤ y2) then some (([], ()), ()) else r0 (IntKind.i64.wrap (v0_3 + (1 : Int)))
              else none
            else r0 (IntKind.i64.wrap (v0_3 + (1 : Int)))
    else none
  else
    (call (127 : Nat) s_impl_searchOf ((a0.fst, a0.snd.fst, ()), ())).bind
      fun (y3 : ((List Int × List Int × PUnit) × PUnit) × PUnit) => l1 y3 a1 (0 : Int) (↑a1.length : Int) (0 : Int)
def L0 (call : Cl) (k : Nat) (a0 : (Int × ((List (List Int)) × Unit))) (a1 : (List Int))  : Nat → (Int) → Option R
    | 0, _ => none
    | n + 1, v0_3 => step0 call k a0 a1  (fun y3_ a1_ v1_1_ v1_2_ v1_4_ => L1 call k y3_ a1_ k v1_1_ v1_2_ v1_4_) (L0 call k a0 a1  n) v0_3
def Fm (call : Cl) (k : Nat) (l0 : ((Int × ((List (List Int)) × Unit))) → ((List Int)) → (Int) → Option R) (a0 : (Int × ((List (List Int)) × Unit))) (a1 : (List Int)) : Option R :=
    (call (35 : Nat) s_impl_CnfOk (a0, ())).bind fun (y0 : (Bool × PUnit) × PUnit) =>
    bif !y0.fst.fst then some (([], ()), ()) else l0 a0 a1 (0 : Int)
def F (call : Cl) (k : Nat) (a0 : (Int × ((List (List Int)) × Unit))) (a1 : (List Int)) : Option R := Fm call k (fun a0_ a1_ v0_3_ => L0 call k a0_ a1_ k v0_3_) a0 a1
theorem L2_eq (call : Cl) (k : Nat) (J : Nat → St → Option R) (a0 : Y8_2) (a1 : (List Int)) (y3 : Y8_0) (v1_4 : Int) (y4 : Int) : ∀ (n : Nat) (x : Y8_3), siteI E call n_impl_PatternsOf k s_impl_PatternsOf (a0, a1, ()) J 2 n (S2 a1 y3 v1_4 y4 x.1 x.2.1 x.2.2) = L2 call k a1 y3 v1_4 y4 (fun v1_1_ v1_2_ v1_4_ => J 1 (S1 a1 y3 v1_1_ v1_2_ v1_4_)) n x.1 x.2.1 x.2.2 := by
  refine loop_eq (E := E) (call := call) (f := n_impl_PatternsOf) (k := k) (s := s_impl_PatternsOf) (l := (a0, a1, ())) (J := J) (i := 2) (X := Y8_3) (fun x => S2 a1 y3 v1_4 y4 x.1 x.2.1 x.2.2) (fun n x => L2 call k a1 y3 v1_4 y4 (fun v1_1_ v1_2_ v1_4_ => J 1 (S1 a1 y3 v1_1_ v1_2_ v1_4_)) n x.1 x.2.1 x.2.2) (fun r x => step2 call k a1 y3 v1_4 y4 (fun v1_1_ v1_2_ v1_4_ => J 1 (S1 a1 y3 v1_1_ v1_2_ v1_4_))  (fun v2_1 v2_2 v2_9 => r (v2_1, v2_2, v2_9)) x.1 x.2.1 x.2.2) ?_ ?_ ?_
  · intro x; rfl
  · intro n x; rfl
  intro J0 x
  kernel_rfl
theorem L3_eq (call : Cl) (k : Nat) (J : Nat → St → Option R) (a0 : Y8_2) (a1 : (List Int)) (y3 : Y8_0) (v1_1 : Int) (v1_2 : Int) : ∀ (n : Nat) (x : ((Int) × (Y8_4))), siteI E call n_impl_PatternsOf k s_impl_PatternsOf (a0, a1, ()) J 3 n (S3 y3 v1_1 v1_2 x.1 x.2) = L3 call k y3 v1_1 v1_2  n x.1 x.2 := by
  refine loop_eq (E := E) (call := call) (f := n_impl_PatternsOf) (k := k) (s := s_impl_PatternsOf) (l := (a0, a1, ())) (J := J) (i := 3) (X := ((Int) × (Y8_4))) (fun x => S3 y3 v1_1 v1_2 x.1 x.2) (fun n x => L3 call k y3 v1_1 v1_2  n x.1 x.2) (fun r x => step3 call k y3 v1_1 v1_2   (fun v3_3 v3_5 => r (v3_3, v3_5)) x.1 x.2) ?_ ?_ ?_
  · intro x; rfl
  · intro n x; rfl
  intro J0 x
  kernel_rfl
theorem L1_eq (call : Cl) (k : Nat) (J : Nat → St → Option R) (a0 : Y8_2) (a1 : (List Int)) (y3 : Y8_0) : ∀ (n : Nat) (x : Y8_3), siteI E call n_impl_PatternsOf k s_impl_PatternsOf (a0, a1, ()) J 1 n (S1 a1 y3 x.1 x.2.1 x.2.2) = L1 call k y3 a1  n x.1 x.2.1 x.2.2 := by
  refine loop_eq (E := E) (call := call) (f := n_impl_PatternsOf) (k := k) (s := s_impl_PatternsOf) (l := (a0, a1, ())) (J := J) (i := 1) (X := Y8_3) (fun x => S1 a1 y3 x.1 x.2.1 x.2.2) (fun n x => L1 call k y3 a1  n x.1 x.2.1 x.2.2) (fun r x => step1 call k y3 a1  (fun (a1 : (List Int)) (y3 : Y8_0) (v1_4 : Int) (y4 : Int) (v2_1_ : Int) (v2_2_ : Int) (v2_9_ : Int) => L2 call k a1 y3 v1_4 y4 (fun v1_1_ v1_2_ v1_4_ => r (v1_1_, v1_2_, v1_4_)) k v2_1_ v2_2_ v2_9_) (fun (y3 : Y8_0) (v1_1 : Int) (v1_2 : Int) (v3_3_ : Int) (v3_5_ : Y8_4) => L3 call k y3 v1_1 v1_2 k v3_3_ v3_5_) (fun v1_1 v1_2 v1_4 => r (v1_1, v1_2, v1_4)) x.1 x.2.1 x.2.2) ?_ ?_ ?_
  · intro x; rfl
  · intro n x; rfl
  intro J0 x
  refine Eq.trans (b := step1 call k y3 a1  (fun a1 y3 v1_4 y4 v2_1_ v2_2_ v2_9_ => siteI E call n_impl_PatternsOf k s_impl_PatternsOf (a0, a1, ()) (upJ 1 J0 J) 2 k (S2 a1 y3 v1_4 y4 v2_1_ v2_2_ v2_9_)) (fun y3 v1_1 v1_2 v3_3_ v3_5_ => siteI E call n_impl_PatternsOf k s_impl_PatternsOf (a0, a1, ()) (upJ 1 J0 J) 3 k (S3 y3 v1_1 v1_2 v3_3_ v3_5_)) (fun v1_1 v1_2 v1_4 => J0 (S1 a1 y3 v1_1 v1_2 v1_4)) x.1 x.2.1 x.2.2) (by kernel_rfl) ?_
  rw [show (fun (a1 : (List Int)) (y3 : Y8_0) (v1_4 : Int) (y4 : Int) (v2_1_ : Int) (v2_2_ : Int) (v2_9_ : Int) => siteI E call n_impl_PatternsOf k s_impl_PatternsOf (a0, a1, ()) (upJ 1 J0 J) 2 k (S2 a1 y3 v1_4 y4 v2_1_ v2_2_ v2_9_)) = (fun (a1 : (List Int)) (y3 : Y8_0) (v1_4 : Int) (y4 : Int) (v2_1_ : Int) (v2_2_ : Int) (v2_9_ : Int) => L2 call k a1 y3 v1_4 y4 (fun v1_1_ v1_2_ v1_4_ => (upJ 1 J0 J) 1 (S1 a1 y3 v1_1_ v1_2_ v1_4_)) k v2_1_ v2_2_ v2_9_) from funext fun a1 => funext fun y3 => funext fun v1_4 => funext fun y4 => funext fun v2_1_ => funext fun v2_2_ => funext fun v2_9_ => L2_eq call k (upJ 1 J0 J) a0 a1 y3 v1_4 y4 k (v2_1_, v2_2_, v2_9_)]
  rw [show (fun (y3 : Y8_0) (v1_1 : Int) (v1_2 : Int) (v3_3_ : Int) (v3_5_ : Y8_4) => siteI E call n_impl_PatternsOf k s_impl_PatternsOf (a0, a1, ()) (upJ 1 J0 J) 3 k (S3 y3 v1_1 v1_2 v3_3_ v3_5_)) = (fun (y3 : Y8_0) (v1_1 : Int) (v1_2 : Int) (v3_3_ : Int) (v3_5_ : Y8_4) => L3 call k y3 v1_1 v1_2 k v3_3_ v3_5_) from funext fun y3 => funext fun v1_1 => funext fun v1_2 => funext fun v3_3_ => funext fun v3_5_ => L3_eq call k (upJ 1 J0 J) a0 a1 y3 v1_1 v1_2 k (v3_3_, v3_5_)]
  all_goals rfl
theorem L0_eq (call : Cl) (k : Nat) (J : Nat → St → Option R) (a0 : Y8_2) (a1 : (List Int)) : ∀ (n : Nat) (x : (Int)), siteI E call n_impl_PatternsOf k s_impl_PatternsOf (a0, a1, ()) J 0 n (S0 a0 a1 x) = L0 call k a0 a1  n x := by
  refine loop_eq (E := E) (call := call) (f := n_impl_PatternsOf) (k := k) (s := s_impl_PatternsOf) (l := (a0, a1, ())) (J := J) (i := 0) (X := (Int)) (fun x => S0 a0 a1 x) (fun n x => L0 call k a0 a1  n x) (fun r x => step0 call k a0 a1  (fun (y3 : Y8_0) (a1 : (List Int)) (v1_1_ : Int) (v1_2_ : Int) (v1_4_ : Int) => L1 call k y3 a1 k v1_1_ v1_2_ v1_4_) (fun v0_3 => r v0_3) x) ?_ ?_ ?_
  · intro x; rfl
  · intro n x; rfl
  intro J0 x
  refine Eq.trans (b := step0 call k a0 a1  (fun y3 a1 v1_1_ v1_2_ v1_4_ => siteI E call n_impl_PatternsOf k s_impl_PatternsOf (a0, a1, ()) (upJ 0 J0 J) 1 k (S1 a1 y3 v1_1_ v1_2_ v1_4_)) (fun v0_3 => J0 (S0 a0 a1 v0_3)) x) (by kernel_rfl) ?_
  rw [show (fun (y3 : Y8_0) (a1 : (List Int)) (v1_1_ : Int) (v1_2_ : Int) (v1_4_ : Int) => siteI E call n_impl_PatternsOf k s_impl_PatternsOf (a0, a1, ()) (upJ 0 J0 J) 1 k (S1 a1 y3 v1_1_ v1_2_ v1_4_)) = (fun (y3 : Y8_0) (a1 : (List Int)) (v1_1_ : Int) (v1_2_ : Int) (v1_4_ : Int) => L1 call k y3 a1 k v1_1_ v1_2_ v1_4_) from funext fun y3 => funext fun a1 => funext fun v1_1_ => funext fun v1_2_ => funext fun v1_4_ => L1_eq call k (upJ 0 J0 J) a0 a1 y3 k (v1_1_, v1_2_, v1_4_)]
  all_goals rfl
theorem F_eq (call : Cl) (k : Nat) (a0 : Y8_2) (a1 : (List Int)) : bodyK E call n_impl_PatternsOf k s_impl_PatternsOf (a0, a1, ()) = F call k a0 a1 := by
  exact Eq.trans (b := Fm call k (fun a0 a1 v0_3_ => siteI E call n_impl_PatternsOf k s_impl_PatternsOf (a0, a1, ()) (fun _ _ => none) 0 k (S0 a0 a1 v0_3_)) a0 a1) (by kernel_rfl) (congrArg (fun l => Fm call k l a0 a1) (funext fun a0 => funext fun a1 => funext fun v0_3_ => L0_eq call k (fun _ _ => none) a0 a1 k v0_3_))
end impl_PatternsOf
/-! #### spec_l14Like -/
namespace spec_l14Like
abbrev R := ((Bool × Unit) × Unit)
def S0 (a0 : (List Bool)) (a1 : (List Bool)) (a2 : (List Int)) (v0_3 : Int) : St := ⟨mkS 31 [(0, .v (.slc .bool) (a0)), (1, .v (.slc .bool) (a1)), (2, .v (.slc (.int .i64)) (a2)), (7, .v (.int .i64) v0_3)], []⟩
def step0 (call : Cl) (k : Nat) (a0 : (List Bool)) (a1 : (List Bool)) (a2 : (List Int))   (r0 : (Int) → Option R) (v0_3 : Int) : Option R :=
    bif decide (v0_3 < (↑a2.length : Int)) then
    bif decide ((0 : Int) ≤ v0_3) then
      (lget a2 v0_3.toNat).bind fun (y0 : Int) =>
        bif decide ((0 : Int) ≤ IntKind.i64.wrap (y0 - (1 : Int))) then
          (lget a0 (IntKind.i64.wrap (y0 - (1 : Int))).toNat).bind fun (y1 : Bool) =>
            bif decide ((0 : Int) ≤ v0_3) then
              (lget a2 v0_3.toNat).bind fun (y2 : Int) =>
                bif decide ((0 : Int) ≤ IntKind.i64.wrap (y2 - (1 : Int))) then
                  (lget a1 (IntKind.i64.wrap (y2 - (1 : Int))).toNat).bind fun (y3 : Bool) =>
                    bif !y1 == y3 then some ((false, ()), ()) else r0 (IntKind.i64.wrap (v0_3 + (1 : Int)))
                else none
            else none
        else none
    else none
  else some ((true, ()), ())
def L0 (call : Cl) (k : Nat) (a0 : (List Bool)) (a1 : (List Bool)) (a2 : (List Int))  : Nat → (Int) → Option R
    | 0, _ => none
    | n + 1, v0_3 => step0 call k a0 a1 a2   (L0 call k a0 a1 a2  n) v0_3
def Fm (call : Cl) (k : Nat) (l0 : ((List Bool)) → ((List Bool)) → ((List Int)) → (Int) → Option R) (a0 : (List Bool)) (a1 : (List Bool)) (a2 : (List Int)) : Option R :=
    l0 a0 a1 a2 (0 : Int)
def F (call : Cl) (k : Nat) (a0 : (List Bool)) (a1 : (List Bool)) (a2 : (List Int)) : Option R := Fm call k (fun a0_ a1_ a2_ v0_3_ => L0 call k a0_ a1_ a2_ k v0_3_) a0 a1 a2
theorem L0_eq (call : Cl) (k : Nat) (J : Nat → St → Option R) (a0 : (List Bool)) (a1 : (List Bool)) (a2 : (List Int)) : ∀ (n : Nat) (x : (Int)), siteI E call n_spec_l14Like k s_spec_l14Like (a0, a1, a2, ()) J 0 n (S0 a0 a1 a2 x) = L0 call k a0 a1 a2  n x := by
  refine loop_eq (E := E) (call := call) (f := n_spec_l14Like) (k := k) (s := s_spec_l14Like) (l := (a0, a1, a2, ())) (J := J) (i := 0) (X := (Int)) (fun x => S0 a0 a1 a2 x) (fun n x => L0 call k a0 a1 a2  n x) (fun r x => step0 call k a0 a1 a2   (fun v0_3 => r v0_3) x) ?_ ?_ ?_
  · intro x; rfl
  · intro n x; rfl
  intro J0 x
  kernel_rfl
theorem F_eq (call : Cl) (k : Nat) (a0 : (List Bool)) (a1 : (List Bool)) (a2 : (List Int)) : bodyK E call n_spec_l14Like k s_spec_l14Like (a0, a1, a2, ()) = F call k a0 a1 a2 := by
  exact Eq.trans (b := Fm call k (fun a0 a1 a2 v0_3_ => siteI E call n_spec_l14Like k s_spec_l14Like (a0, a1, a2, ()) (fun _ _ => none) 0 k (S0 a0 a1 a2 v0_3_)) a0 a1 a2) (by kernel_rfl) (congrArg (fun l => Fm call k l a0 a1 a2) (funext fun a0 => funext fun a1 => funext fun a2 => funext fun v0_3_ => L0_eq call k (fun _ _ => none) a0 a1 a2 k v0_3_))
end spec_l14Like
end Go.Proofs.Ytcmgjdmhemfecaa.Pf
