/- Printed texts: what the reading of these functions is. No condition. -/
import Derived.Test.YtcmgjdmhemfecaaPvEnv
import Derived.KernelRfl
set_option linter.unusedVariables false
namespace Go.Proofs.Ytcmgjdmhemfecaa.Pf
open Go Go.Pv
abbrev Y1_0 := (Int × ((List (List Int)) × Unit))
abbrev Y1_1 := ((Int) × ((List Bool)))
abbrev Y1_2 := ((Int) × ((List Int)))
abbrev Y1_3 := ((List Bool) × Unit)
abbrev Y1_4 := ((Bool) × (Int))
/-! #### spec_l14Clause -/
namespace spec_l14Clause
abbrev R := ((Bool × Unit) × Unit)
def S1 (a0 : Int) (a1 : (List Int)) (v0_2 : Int) (v1_3 : Int) : St := ⟨mkS 48 [(0, .v (.int .i64) (a0)), (1, .v (.slc (.int .i64)) (a1)), (5, .v (.int .i64) (v0_2)), (6, .v (.int .i64) v1_3)], []⟩
def S0 (a0 : Int) (a1 : (List Int)) (v0_2 : Int) : St := ⟨mkS 48 [(0, .v (.int .i64) (a0)), (1, .v (.slc (.int .i64)) (a1)), (5, .v (.int .i64) v0_2)], []⟩
def step1 (call : Cl) (k : Nat) (a1 : (List Int)) (v0_2 : Int) (r0 : (Int) → Option R)  (r1 : (Int) → Option R) (v1_3 : Int) : Option R :=
    bif decide (v1_3 < v0_2) then
    bif decide ((0 : Int) ≤ v1_3) then
      (lget a1 v1_3.toNat).bind fun (y3 : Int) =>
        (call (148 : Nat) s_spec_l14Abs (y3, ())).bind fun (y4 : (Int × PUnit) × PUnit) =>
          bif decide ((0 : Int) ≤ v0_2) then
            (lget a1 v0_2.toNat).bind fun (y5 : Int) =>
              (call (148 : Nat) s_spec_l14Abs (y5, ())).bind fun (y6 : (Int × PUnit) × PUnit) =>
                bif y4.fst.fst == y6.fst.fst then some ((false, ()), ()) else r1 (IntKind.i64.wrap (v1_3 + (1 : Int)))
          else none
    else none
  else r0 (IntKind.i64.wrap (v0_2 + (1 : Int)))
def L1 (call : Cl) (k : Nat) (a1 : (List Int)) (v0_2 : Int) (r0 : (Int) → Option R) : Nat → (Int) → Option R
    | 0, _ => none
    | n + 1, v1_3 => step1 call k a1 v0_2 r0  (L1 call k a1 v0_2 r0 n) v1_3
def step0 (call : Cl) (k : Nat) (a0 : Int) (a1 : (List Int))  (l1 : ((List Int)) → (Int) → (Int) → Option R) (r0 : (Int) → Option R) (v0_2 : Int) : Option R :=
    bif decide (v0_2 < (↑a1.length : Int)) then
    bif decide ((0 : Int) ≤ v0_2) then
      (lget a1 v0_2.toNat).bind fun (y0 : Int) =>
        (call (88 : Nat) s_spec_l1In (y0, IntKind.i64.wrap ((0 : Int) - a0), a0, ())).bind
          fun (y1 : (Bool × PUnit) × PUnit) =>
          bif !y1.fst.fst then some ((false, ()), ())
          else
            bif decide ((0 : Int) ≤ v0_2) then
              (lget a1 v0_2.toNat).bind fun (y2 : Int) =>
                bif y2 == (0 : Int) then some ((false, ()), ()) else l1 a1 v0_2 (0 : Int)
            else none
    else none
  else some ((decide ((↑a1.length : Int) ≤ (12 : Int)), ()), ())
def L0 (call : Cl) (k : Nat) (a0 : Int) (a1 : (List Int))  : Nat → (Int) → Option R
    | 0, _ => none
    | n + 1, v0_2 => step0 call k a0 a1  (fun a1_ v0_2_ v1_3_ => L1 call k a1_ v0_2_ (L0 call k a0 a1  n) k v1_3_) (L0 call k a0 a1  n) v0_2
def Fm (call : Cl) (k : Nat) (l0 : (Int) → ((List Int)) → (Int) → Option R) (a0 : Int) (a1 : (List Int)) : Option R :=
    l0 a0 a1 (0 : Int)
def F (call : Cl) (k : Nat) (a0 : Int) (a1 : (List Int)) : Option R := Fm call k (fun a0_ a1_ v0_2_ => L0 call k a0_ a1_ k v0_2_) a0 a1
theorem L1_eq (call : Cl) (k : Nat) (J : Nat → St → Option R) (a0 : Int) (a1 : (List Int)) (v0_2 : Int) : ∀ (n : Nat) (x : (Int)), siteI E call n_spec_l14Clause k s_spec_l14Clause (a0, a1, ()) J 1 n (S1 a0 a1 v0_2 x) = L1 call k a1 v0_2 (fun v0_2_ => J 0 (S0 a0 a1 v0_2_)) n x := by
  refine loop_eq (E := E) (call := call) (f := n_spec_l14Clause) (k := k) (s := s_spec_l14Clause) (l := (a0, a1, ())) (J := J) (i := 1) (X := (Int)) (fun x => S1 a0 a1 v0_2 x) (fun n x => L1 call k a1 v0_2 (fun v0_2_ => J 0 (S0 a0 a1 v0_2_)) n x) (fun r x => step1 call k a1 v0_2 (fun v0_2_ => J 0 (S0 a0 a1 v0_2_))  (fun v1_3 => r v1_3) x) ?_ ?_ ?_
  · intro x; rfl
  · intro n x; rfl
  intro J0 x
  kernel_rfl
theorem L0_eq (call : Cl) (k : Nat) (J : Nat → St → Option R) (a0 : Int) (a1 : (List Int)) : ∀ (n : Nat) (x : (Int)), siteI E call n_spec_l14Clause k s_spec_l14Clause (a0, a1, ()) J 0 n (S0 a0 a1 x) = L0 call k a0 a1  n x := by
  refine loop_eq (E := E) (call := call) (f := n_spec_l14Clause) (k := k) (s := s_spec_l14Clause) (l := (a0, a1, ())) (J := J) (i := 0) (X := (Int)) (fun x => S0 a0 a1 x) (fun n x => L0 call k a0 a1  n x) (fun r x => step0 call k a0 a1  (fun (a1 : (List Int)) (v0_2 : Int) (v1_3_ : Int) => L1 call k a1 v0_2 (fun v0_2_ => r v0_2_) k v1_3_) (fun v0_2 => r v0_2) x) ?_ ?_ ?_
  · intro x; rfl
  · intro n x; rfl
  intro J0 x
  refine Eq.trans (b := step0 call k a0 a1  (fun a1 v0_2 v1_3_ => siteI E call n_spec_l14Clause k s_spec_l14Clause (a0, a1, ()) (upJ 0 J0 J) 1 k (S1 a0 a1 v0_2 v1_3_)) (fun v0_2 => J0 (S0 a0 a1 v0_2)) x) (by kernel_rfl) ?_
  rw [show (fun (a1 : (List Int)) (v0_2 : Int) (v1_3_ : Int) => siteI E call n_spec_l14Clause k s_spec_l14Clause (a0, a1, ()) (upJ 0 J0 J) 1 k (S1 a0 a1 v0_2 v1_3_)) = (fun (a1 : (List Int)) (v0_2 : Int) (v1_3_ : Int) => L1 call k a1 v0_2 (fun v0_2_ => (upJ 0 J0 J) 0 (S0 a0 a1 v0_2_)) k v1_3_) from funext fun a1 => funext fun v0_2 => funext fun v1_3_ => L1_eq call k (upJ 0 J0 J) a0 a1 v0_2 k v1_3_]
  all_goals rfl
theorem F_eq (call : Cl) (k : Nat) (a0 : Int) (a1 : (List Int)) : bodyK E call n_spec_l14Clause k s_spec_l14Clause (a0, a1, ()) = F call k a0 a1 := by
  exact Eq.trans (b := Fm call k (fun a0 a1 v0_2_ => siteI E call n_spec_l14Clause k s_spec_l14Clause (a0, a1, ()) (fun _ _ => none) 0 k (S0 a0 a1 v0_2_)) a0 a1) (by kernel_rfl) (congrArg (fun l => Fm call k l a0 a1) (funext fun a0 => funext fun a1 => funext fun v0_2_ => L0_eq call k (fun _ _ => none) a0 a1 k v0_2_))
end spec_l14Clause
/-! #### spec_l14Used -/
namespace spec_l14Used
abbrev R := (((List Int) × Unit) × Unit)
def S1 (a0 : Y1_0) (v0_0 : Int) (v1_1 : Int) (v1_2 : (List Int)) : St := ⟨mkS 36 [(1, .p [1] [] 0), (3, .ref [3]), (4, .v (.int .i64) (v0_0)), (5, .v (.int .i64) v1_1)], [([3], .list 2 (.int .i64) v1_2), ([1], .box (.v (.pair (.int .i64) (.pair (.slc (.slc (.int .i64))) .unit)) ((a0.fst), ((a0.snd.fst), ()))))]⟩
def S0 (a0 : Y1_0) (v0_0 : Int) (v0_1 : (List Int)) : St := ⟨mkS 36 [(1, .p [1] [] 0), (3, .ref [3]), (4, .v (.int .i64) v0_0)], [([3], .list 2 (.int .i64) v0_1), ([1], .box (.v (.pair (.int .i64) (.pair (.slc (.slc (.int .i64))) .unit)) ((a0.fst), ((a0.snd.fst), ()))))]⟩
def step1 (call : Cl) (k : Nat) (a0 : (Int × ((List (List Int)) × Unit))) (v0_0 : Int) (r0 : (Int) → ((List Int)) → Option R)  (r1 : (Int) → ((List Int)) → Option R) (v1_1 : Int) (v1_2 : (List Int)) : Option R :=
    bif decide ((0 : Int) ≤ v0_0) then
    (lget a0.snd.fst v0_0.toNat).bind fun (y0 : List Int) =>
      bif decide (v1_1 < (↑y0.length : Int)) then
        bif decide ((0 : Int) ≤ v0_0) then
          (lget a0.snd.fst v0_0.toNat).bind fun (y1 : List Int) =>
            bif decide ((0 : Int) ≤ v1_1) then
              (lget y1 v1_1.toNat).bind fun (y2 : Int) =>
                (call (148 : Nat) s_spec_l14Abs (y2, ())).bind fun (y3 : (Int × PUnit) × PUnit) =>
                  (call (149 : Nat) s_spec_l2With (v1_2, y3.fst.fst, ())).bind fun (y4 : (List Int × PUnit) × PUnit) =>
                    r1 (IntKind.i64.wrap (v1_1 + (1 : Int))) y4.fst.fst
            else none
        else none
      else r0 (IntKind.i64.wrap (v0_0 + (1 : Int))) v1_2
  else none
def L1 (call : Cl) (k : Nat) (a0 : (Int × ((List (List Int)) × Unit))) (v0_0 : Int) (r0 : (Int) → ((List Int)) → Option R) : Nat → (Int) → ((List Int)) → Option R
    | 0, _, _ => none
    | n + 1, v1_1, v1_2 => step1 call k a0 v0_0 r0  (L1 call k a0 v0_0 r0 n) v1_1 v1_2
def step0 (call : Cl) (k : Nat) (a0 : (Int × ((List (List Int)) × Unit)))  (l1 : ((Int × ((List (List Int)) × Unit))) → (Int) → (Int) → ((List Int)) → Option R) (r0 : (Int) → ((List Int)) → Option R) (v0_0 : Int) (v0_1 : (List Int)) : Option R :=
    bif decide (v0_0 < (↑a0.snd.fst.length : Int)) then l1 a0 v0_0 (0 : Int) v0_1 else some ((v0_1, ()), ())
def L0 (call : Cl) (k : Nat) (a0 : (Int × ((List (List Int)) × Unit)))  : Nat → (Int) → ((List Int)) → Option R
    | 0, _, _ => none
    | n + 1, v0_0, v0_1 => step0 call k a0  (fun a0_ v0_0_ v1_1_ v1_2_ => L1 call k a0_ v0_0_ (L0 call k a0  n) k v1_1_ v1_2_) (L0 call k a0  n) v0_0 v0_1
def Fm (call : Cl) (k : Nat) (l0 : ((Int × ((List (List Int)) × Unit))) → (Int) → ((List Int)) → Option R) (a0 : (Int × ((List (List Int)) × Unit))) : Option R :=
    l0 a0 (0 : Int) []
def F (call : Cl) (k : Nat) (a0 : (Int × ((List (List Int)) × Unit))) : Option R := Fm call k (fun a0_ v0_0_ v0_1_ => L0 call k a0_ k v0_0_ v0_1_) a0
theorem L1_eq (call : Cl) (k : Nat) (J : Nat → St → Option R) (a0 : Y1_0) (v0_0 : Int) : ∀ (n : Nat) (x : Y1_2), siteI E call n_spec_l14Used k s_spec_l14Used (a0, ()) J 1 n (S1 a0 v0_0 x.1 x.2) = L1 call k a0 v0_0 (fun v0_0_ v0_1_ => J 0 (S0 a0 v0_0_ v0_1_)) n x.1 x.2 := by
  refine loop_eq (E := E) (call := call) (f := n_spec_l14Used) (k := k) (s := s_spec_l14Used) (l := (a0, ())) (J := J) (i := 1) (X := Y1_2) (fun x => S1 a0 v0_0 x.1 x.2) (fun n x => L1 call k a0 v0_0 (fun v0_0_ v0_1_ => J 0 (S0 a0 v0_0_ v0_1_)) n x.1 x.2) (fun r x => step1 call k a0 v0_0 (fun v0_0_ v0_1_ => J 0 (S0 a0 v0_0_ v0_1_))  (fun v1_1 v1_2 => r (v1_1, v1_2)) x.1 x.2) ?_ ?_ ?_
  · intro x; rfl
  · intro n x; rfl
  intro J0 x
  kernel_rfl
theorem L0_eq (call : Cl) (k : Nat) (J : Nat → St → Option R) (a0 : Y1_0) : ∀ (n : Nat) (x : Y1_2), siteI E call n_spec_l14Used k s_spec_l14Used (a0, ()) J 0 n (S0 a0 x.1 x.2) = L0 call k a0  n x.1 x.2 := by
  refine loop_eq (E := E) (call := call) (f := n_spec_l14Used) (k := k) (s := s_spec_l14Used) (l := (a0, ())) (J := J) (i := 0) (X := Y1_2) (fun x => S0 a0 x.1 x.2) (fun n x => L0 call k a0  n x.1 x.2) (fun r x => step0 call k a0  (fun (a0 : Y1_0) (v0_0 : Int) (v1_1_ : Int) (v1_2_ : (List Int)) => L1 call k a0 v0_0 (fun v0_0_ v0_1_ => r (v0_0_, v0_1_)) k v1_1_ v1_2_) (fun v0_0 v0_1 => r (v0_0, v0_1)) x.1 x.2) ?_ ?_ ?_
  · intro x; rfl
  · intro n x; rfl
  intro J0 x
  refine Eq.trans (b := step0 call k a0  (fun a0 v0_0 v1_1_ v1_2_ => siteI E call n_spec_l14Used k s_spec_l14Used (a0, ()) (upJ 0 J0 J) 1 k (S1 a0 v0_0 v1_1_ v1_2_)) (fun v0_0 v0_1 => J0 (S0 a0 v0_0 v0_1)) x.1 x.2) (by kernel_rfl) ?_
  rw [show (fun (a0 : Y1_0) (v0_0 : Int) (v1_1_ : Int) (v1_2_ : (List Int)) => siteI E call n_spec_l14Used k s_spec_l14Used (a0, ()) (upJ 0 J0 J) 1 k (S1 a0 v0_0 v1_1_ v1_2_)) = (fun (a0 : Y1_0) (v0_0 : Int) (v1_1_ : Int) (v1_2_ : (List Int)) => L1 call k a0 v0_0 (fun v0_0_ v0_1_ => (upJ 0 J0 J) 0 (S0 a0 v0_0_ v0_1_)) k v1_1_ v1_2_) from funext fun a0 => funext fun v0_0 => funext fun v1_1_ => funext fun v1_2_ => L1_eq call k (upJ 0 J0 J) a0 v0_0 k (v1_1_, v1_2_)]
  all_goals rfl
theorem F_eq (call : Cl) (k : Nat) (a0 : Y1_0) : bodyK E call n_spec_l14Used k s_spec_l14Used (a0, ()) = F call k a0 := by
  exact Eq.trans (b := Fm call k (fun a0 v0_0_ v0_1_ => siteI E call n_spec_l14Used k s_spec_l14Used (a0, ()) (fun _ _ => none) 0 k (S0 a0 v0_0_ v0_1_)) a0) (by kernel_rfl) (congrArg (fun l => Fm call k l a0) (funext fun a0 => funext fun v0_0_ => funext fun v0_1_ => L0_eq call k (fun _ _ => none) a0 k (v0_0_, v0_1_)))
end spec_l14Used
/-! #### spec_CnfOk -/
namespace spec_CnfOk
abbrev R := ((Bool × Unit) × Unit)
def S0 (a0 : Y1_0) (v0_0 : Int) : St := ⟨mkS 34 [(1, .p [1] [] 0), (3, .v (.int .i64) v0_0)], [([1], .box (.v (.pair (.int .i64) (.pair (.slc (.slc (.int .i64))) .unit)) ((a0.fst), ((a0.snd.fst), ()))))]⟩
def step0 (call : Cl) (k : Nat) (a0 : (Int × ((List (List Int)) × Unit)))   (r0 : (Int) → Option R) (v0_0 : Int) : Option R :=
    bif decide (v0_0 < (↑a0.snd.fst.length : Int)) then
    bif decide ((0 : Int) ≤ v0_0) then
      (lget a0.snd.fst v0_0.toNat).bind fun (y1 : List Int) =>
        (call (95 : Nat) s_spec_l14Clause (a0.fst, y1, ())).bind fun (y2 : (Bool × PUnit) × PUnit) =>
          bif !y2.fst.fst then some ((false, ()), ()) else r0 (IntKind.i64.wrap (v0_0 + (1 : Int)))
    else none
  else
    (call (96 : Nat) s_spec_l14Used ((a0.fst, a0.snd.fst, ()), ())).bind fun (y3 : (List Int × PUnit) × PUnit) =>
      some ((decide ((↑(List.length y3.fst.fst) : Int) ≤ (12 : Int)), ()), ())
def L0 (call : Cl) (k : Nat) (a0 : (Int × ((List (List Int)) × Unit)))  : Nat → (Int) → Option R
    | 0, _ => none
    | n + 1, v0_0 => step0 call k a0   (L0 call k a0  n) v0_0
def Fm (call : Cl) (k : Nat) (l0 : ((Int × ((List (List Int)) × Unit))) → (Int) → Option R) (a0 : (Int × ((List (List Int)) × Unit))) : Option R :=
    (call (88 : Nat) s_spec_l1In (a0.fst, (0 : Int), (300 : Int), ())).bind fun (y0 : (Bool × PUnit) × PUnit) =>
    bif !y0.fst.fst then some ((false, ()), ())
    else bif decide ((↑(List.length a0.snd.fst) : Int) > (60 : Int)) then some ((false, ()), ()) else l0 a0 (0 : Int)
def F (call : Cl) (k : Nat) (a0 : (Int × ((List (List Int)) × Unit))) : Option R := Fm call k (fun a0_ v0_0_ => L0 call k a0_ k v0_0_) a0
theorem L0_eq (call : Cl) (k : Nat) (J : Nat → St → Option R) (a0 : Y1_0) : ∀ (n : Nat) (x : (Int)), siteI E call n_spec_CnfOk k s_spec_CnfOk (a0, ()) J 0 n (S0 a0 x) = L0 call k a0  n x := by
  refine loop_eq (E := E) (call := call) (f := n_spec_CnfOk) (k := k) (s := s_spec_CnfOk) (l := (a0, ())) (J := J) (i := 0) (X := (Int)) (fun x => S0 a0 x) (fun n x => L0 call k a0  n x) (fun r x => step0 call k a0   (fun v0_0 => r v0_0) x) ?_ ?_ ?_
  · intro x; rfl
  · intro n x; rfl
  intro J0 x
  kernel_rfl
theorem F_eq (call : Cl) (k : Nat) (a0 : Y1_0) : bodyK E call n_spec_CnfOk k s_spec_CnfOk (a0, ()) = F call k a0 := by
  exact Eq.trans (b := Fm call k (fun a0 v0_0_ => siteI E call n_spec_CnfOk k s_spec_CnfOk (a0, ()) (fun _ _ => none) 0 k (S0 a0 v0_0_)) a0) (by kernel_rfl) (congrArg (fun l => Fm call k l a0) (funext fun a0 => funext fun v0_0_ => L0_eq call k (fun _ _ => none) a0 k v0_0_))
end spec_CnfOk
/-! #### impl_clauseRight -/
namespace impl_clauseRight
abbrev R := ((Bool × Unit) × Unit)
def S1 (a0 : Int) (a1 : (List Int)) (v0_4 : Int) (y0 : Int) (v1_8 : Int) : St := ⟨mkS 47 [(0, .v (.int .i64) (a0)), (1, .v (.slc (.int .i64)) (a1)), (6, .v (.int .i64) (y0)), (12, .v (.slc (.int .i64)) (a1)), (13, .v (.int .i64) ((↑a1.length : Int))), (14, .v (.int .i64) (v0_4)), (34, .v (.slc (.int .i64)) (List.take (v0_4.toNat - (0 : Nat)) (List.drop (0 : Nat) a1))), (35, .v (.int .i64) ((↑(List.take (v0_4.toNat - (0 : Nat)) (List.drop (0 : Nat) a1)).length : Int))), (36, .v (.int .i64) v1_8)], []⟩
def S0 (a0 : Int) (a1 : (List Int)) (v0_4 : Int) : St := ⟨mkS 47 [(0, .v (.int .i64) (a0)), (1, .v (.slc (.int .i64)) (a1)), (12, .v (.slc (.int .i64)) (a1)), (13, .v (.int .i64) ((↑a1.length : Int))), (14, .v (.int .i64) v0_4)], []⟩
def step1 (call : Cl) (k : Nat) (a1 : (List Int)) (v0_4 : Int) (y0 : Int) (r0 : (Int) → Option R)  (r1 : (Int) → Option R) (v1_8 : Int) : Option R :=
    bif decide (v1_8 < (↑(List.take (v0_4.toNat - (0 : Nat)) (List.drop (0 : Nat) a1)).length : Int)) then
    bif decide ((0 : Int) ≤ v1_8) then
      (lget (List.take (v0_4.toNat - (0 : Nat)) (List.drop (0 : Nat) a1)) v1_8.toNat).bind fun (y1 : Int) =>
        (call (150 : Nat) s_impl_variableOf (y1, ())).bind fun (y2 : (Int × PUnit) × PUnit) =>
          (call (150 : Nat) s_impl_variableOf (y0, ())).bind fun (y3 : (Int × PUnit) × PUnit) =>
            bif y2.fst.fst == y3.fst.fst then some ((false, ()), ()) else r1 (IntKind.i64.wrap (v1_8 + (1 : Int)))
    else none
  else r0 (IntKind.i64.wrap (v0_4 + (1 : Int)))
def L1 (call : Cl) (k : Nat) (a1 : (List Int)) (v0_4 : Int) (y0 : Int) (r0 : (Int) → Option R) : Nat → (Int) → Option R
    | 0, _ => none
    | n + 1, v1_8 => step1 call k a1 v0_4 y0 r0  (L1 call k a1 v0_4 y0 r0 n) v1_8
def step0 (call : Cl) (k : Nat) (a0 : Int) (a1 : (List Int))  (l1 : ((List Int)) → (Int) → (Int) → (Int) → Option R) (r0 : (Int) → Option R) (v0_4 : Int) : Option R :=
    bif decide (v0_4 < (↑a1.length : Int)) then
    bif decide ((0 : Int) ≤ v0_4) then
      (lget a1 v0_4.toNat).bind fun (y0 : Int) =>
        bif y0 == (0 : Int) then some ((false, ()), ())
        else
          bif decide (y0 > a0) then some ((false, ()), ())
          else
            bif decide (y0 < IntKind.i64.wrap ((0 : Int) - a0)) then some ((false, ()), ())
            else
              bif decide ((0 : Int) ≤ v0_4) then
                bif decide ((0 : Nat) ≤ v0_4.toNat) && decide (v0_4.toNat ≤ a1.length) then l1 a1 v0_4 y0 (0 : Int) else none
              else none
    else none
  else some ((true, ()), ())
def L0 (call : Cl) (k : Nat) (a0 : Int) (a1 : (List Int))  : Nat → (Int) → Option R
    | 0, _ => none
    | n + 1, v0_4 => step0 call k a0 a1  (fun a1_ v0_4_ y0_ v1_8_ => L1 call k a1_ v0_4_ y0_ (L0 call k a0 a1  n) k v1_8_) (L0 call k a0 a1  n) v0_4
def Fm (call : Cl) (k : Nat) (l0 : (Int) → ((List Int)) → (Int) → Option R) (a0 : Int) (a1 : (List Int)) : Option R :=
    bif decide ((↑a1.length : Int) > (12 : Int)) then some ((false, ()), ()) else l0 a0 a1 (0 : Int)
def F (call : Cl) (k : Nat) (a0 : Int) (a1 : (List Int)) : Option R := Fm call k (fun a0_ a1_ v0_4_ => L0 call k a0_ a1_ k v0_4_) a0 a1
theorem L1_eq (call : Cl) (k : Nat) (J : Nat → St → Option R) (a0 : Int) (a1 : (List Int)) (v0_4 : Int) (y0 : Int) : ∀ (n : Nat) (x : (Int)), siteI E call n_impl_clauseRight k s_impl_clauseRight (a0, a1, ()) J 1 n (S1 a0 a1 v0_4 y0 x) = L1 call k a1 v0_4 y0 (fun v0_4_ => J 0 (S0 a0 a1 v0_4_)) n x := by
  refine loop_eq (E := E) (call := call) (f := n_impl_clauseRight) (k := k) (s := s_impl_clauseRight) (l := (a0, a1, ())) (J := J) (i := 1) (X := (Int)) (fun x => S1 a0 a1 v0_4 y0 x) (fun n x => L1 call k a1 v0_4 y0 (fun v0_4_ => J 0 (S0 a0 a1 v0_4_)) n x) (fun r x => step1 call k a1 v0_4 y0 (fun v0_4_ => J 0 (S0 a0 a1 v0_4_))  (fun v1_8 => r v1_8) x) ?_ ?_ ?_
  · intro x; rfl
  · intro n x; rfl
  intro J0 x
  kernel_rfl
theorem L0_eq (call : Cl) (k : Nat) (J : Nat → St → Option R) (a0 : Int) (a1 : (List Int)) : ∀ (n : Nat) (x : (Int)), siteI E call n_impl_clauseRight k s_impl_clauseRight (a0, a1, ()) J 0 n (S0 a0 a1 x) = L0 call k a0 a1  n x := by
  refine loop_eq (E := E) (call := call) (f := n_impl_clauseRight) (k := k) (s := s_impl_clauseRight) (l := (a0, a1, ())) (J := J) (i := 0) (X := (Int)) (fun x => S0 a0 a1 x) (fun n x => L0 call k a0 a1  n x) (fun r x => step0 call k a0 a1  (fun (a1 : (List Int)) (v0_4 : Int) (y0 : Int) (v1_8_ : Int) => L1 call k a1 v0_4 y0 (fun v0_4_ => r v0_4_) k v1_8_) (fun v0_4 => r v0_4) x) ?_ ?_ ?_
  · intro x; rfl
  · intro n x; rfl
  intro J0 x
  refine Eq.trans (b := step0 call k a0 a1  (fun a1 v0_4 y0 v1_8_ => siteI E call n_impl_clauseRight k s_impl_clauseRight (a0, a1, ()) (upJ 0 J0 J) 1 k (S1 a0 a1 v0_4 y0 v1_8_)) (fun v0_4 => J0 (S0 a0 a1 v0_4)) x) (by kernel_rfl) ?_
  rw [show (fun (a1 : (List Int)) (v0_4 : Int) (y0 : Int) (v1_8_ : Int) => siteI E call n_impl_clauseRight k s_impl_clauseRight (a0, a1, ()) (upJ 0 J0 J) 1 k (S1 a0 a1 v0_4 y0 v1_8_)) = (fun (a1 : (List Int)) (v0_4 : Int) (y0 : Int) (v1_8_ : Int) => L1 call k a1 v0_4 y0 (fun v0_4_ => (upJ 0 J0 J) 0 (S0 a0 a1 v0_4_)) k v1_8_) from funext fun a1 => funext fun v0_4 => funext fun y0 => funext fun v1_8_ => L1_eq call k (upJ 0 J0 J) a0 a1 v0_4 y0 k v1_8_]
  all_goals rfl
theorem F_eq (call : Cl) (k : Nat) (a0 : Int) (a1 : (List Int)) : bodyK E call n_impl_clauseRight k s_impl_clauseRight (a0, a1, ()) = F call k a0 a1 := by
  exact Eq.trans (b := Fm call k (fun a0 a1 v0_4_ => siteI E call n_impl_clauseRight k s_impl_clauseRight (a0, a1, ()) (fun _ _ => none) 0 k (S0 a0 a1 v0_4_)) a0 a1) (by kernel_rfl) (congrArg (fun l => Fm call k l a0 a1) (funext fun a0 => funext fun a1 => funext fun v0_4_ => L0_eq call k (fun _ _ => none) a0 a1 k v0_4_))
end impl_clauseRight
/-! #### impl_usedBy -/
namespace impl_usedBy
abbrev R := (((List Int) × Unit) × Unit)
def S1 (a0 : Y1_0) (v0_2 : Int) (y0 : (List Int)) (v1_5 : Int) (v1_6 : (List Bool)) : St := ⟨mkS 44 [(3, .ap [3] 301), (14, .v (.slc (.slc (.int .i64))) (a0.snd.fst)), (15, .v (.int .i64) ((↑(List.length a0.snd.fst) : Int))), (16, .v (.int .i64) (v0_2)), (20, .v (.slc (.int .i64)) (y0)), (21, .v (.int .i64) ((↑y0.length : Int))), (22, .v (.int .i64) v1_5)], [([3], .list 148 .bool v1_6)]⟩
def S2 (v0_3 : (List Bool)) (v2_1 : Int) (v2_2 : (List Int)) : St := ⟨mkS 44 [(8, .ref [8]), (32, .v (.arr 301 .bool) (v0_3)), (33, .v (.int .i64) v2_1)], [([8], .list 2 (.int .i64) v2_2)]⟩
def S0 (a0 : Y1_0) (v0_2 : Int) (v0_3 : (List Bool)) : St := ⟨mkS 44 [(3, .ap [3] 301), (14, .v (.slc (.slc (.int .i64))) (a0.snd.fst)), (15, .v (.int .i64) ((↑(List.length a0.snd.fst) : Int))), (16, .v (.int .i64) v0_2)], [([3], .list 148 .bool v0_3)]⟩
def step1 (call : Cl) (k : Nat) (v0_2 : Int) (y0 : (List Int)) (r0 : (Int) → ((List Bool)) → Option R)  (r1 : (Int) → ((List Bool)) → Option R) (v1_5 : Int) (v1_6 : (List Bool)) : Option R :=
    bif decide (v1_5 < (↑y0.length : Int)) then
    bif decide ((0 : Int) ≤ v1_5) then
      (lget y0 v1_5.toNat).bind fun (y1 : Int) =>
        (call (150 : Nat) s_impl_variableOf (y1, ())).bind fun (y2 : (Int × PUnit) × PUnit) =>
          bif decide ((0 : Int) ≤ y2.fst.fst) && decide (Int.toNat y2.fst.fst < v1_6.length) then
            (lget v1_6 (Int.toNat y2.fst.fst)).bind fun (y3 : Bool) =>
              r1 (IntKind.i64.wrap (v1_5 + (1 : Int))) (v1_6.set (Int.toNat y2.fst.fst) true)
          else none
    else none
  else r0 (IntKind.i64.wrap (v0_2 + (1 : Int))) v1_6
def L1 (call : Cl) (k : Nat) (v0_2 : Int) (y0 : (List Int)) (r0 : (Int) → ((List Bool)) → Option R) : Nat → (Int) → ((List Bool)) → Option R
    | 0, _, _ => none
    | n + 1, v1_5, v1_6 => step1 call k v0_2 y0 r0  (L1 call k v0_2 y0 r0 n) v1_5 v1_6
def step2 (call : Cl) (k : Nat) (v0_3 : (List Bool))   (r2 : (Int) → ((List Int)) → Option R) (v2_1 : Int) (v2_2 : (List Int)) : Option R :=
    bif decide (v2_1 < (301 : Int)) then
    bif decide ((0 : Int) ≤ v2_1) then
      (lget v0_3 v2_1.toNat).bind fun (y4 : Bool) =>
        bif y4 then
          bif decide ((v2_2.length + [v2_1].length) * ti2.bytes ≤ (140737488355328 : Nat)) then
            r2 (IntKind.i64.wrap (v2_1 + (1 : Int))) (v2_2 ++ [v2_1])
          else none
        else r2 (IntKind.i64.wrap (v2_1 + (1 : Int))) v2_2
    else none
  else some ((v2_2, ()), ())
def L2 (call : Cl) (k : Nat) (v0_3 : (List Bool))  : Nat → (Int) → ((List Int)) → Option R
    | 0, _, _ => none
    | n + 1, v2_1, v2_2 => step2 call k v0_3   (L2 call k v0_3  n) v2_1 v2_2
def step0 (call : Cl) (k : Nat) (a0 : (Int × ((List (List Int)) × Unit)))  (l1 : (Int) → ((List Int)) → (Int) → ((List Bool)) → Option R) (l2 : ((List Bool)) → (Int) → ((List Int)) → Option R) (r0 : (Int) → ((List Bool)) → Option R) (v0_2 : Int) (v0_3 : (List Bool)) : Option R :=
    bif decide (v0_2 < (↑(List.length a0.snd.fst) : Int)) then
    bif decide ((0 : Int) ≤ v0_2) then (lget a0.snd.fst v0_2.toNat).bind fun (y0 : List Int) => l1 v0_2 y0 (0 : Int) v0_3
    else none
  else l2 v0_3 (0 : Int) []
def L0 (call : Cl) (k : Nat) (a0 : (Int × ((List (List Int)) × Unit)))  : Nat → (Int) → ((List Bool)) → Option R
    | 0, _, _ => none
    | n + 1, v0_2, v0_3 => step0 call k a0  (fun v0_2_ y0_ v1_5_ v1_6_ => L1 call k v0_2_ y0_ (L0 call k a0  n) k v1_5_ v1_6_) (fun v0_3_ v2_1_ v2_2_ => L2 call k v0_3_ k v2_1_ v2_2_) (L0 call k a0  n) v0_2 v0_3
def Fm (call : Cl) (k : Nat) (l0 : ((Int × ((List (List Int)) × Unit))) → (Int) → ((List Bool)) → Option R) (a0 : (Int × ((List (List Int)) × Unit))) : Option R :=
    l0 a0 (0 : Int) (List.replicate (301 : Nat) false)
def F (call : Cl) (k : Nat) (a0 : (Int × ((List (List Int)) × Unit))) : Option R := Fm call k (fun a0_ v0_2_ v0_3_ => L0 call k a0_ k v0_2_ v0_3_) a0
theorem L1_eq (call : Cl) (k : Nat) (J : Nat → St → Option R) (a0 : Y1_0) (v0_2 : Int) (y0 : (List Int)) : ∀ (n : Nat) (x : Y1_1), siteI E call n_impl_usedBy k s_impl_usedBy (a0, ()) J 1 n (S1 a0 v0_2 y0 x.1 x.2) = L1 call k v0_2 y0 (fun v0_2_ v0_3_ => J 0 (S0 a0 v0_2_ v0_3_)) n x.1 x.2 := by
  refine loop_eq (E := E) (call := call) (f := n_impl_usedBy) (k := k) (s := s_impl_usedBy) (l := (a0, ())) (J := J) (i := 1) (X := Y1_1) (fun x => S1 a0 v0_2 y0 x.1 x.2) (fun n x => L1 call k v0_2 y0 (fun v0_2_ v0_3_ => J 0 (S0 a0 v0_2_ v0_3_)) n x.1 x.2) (fun r x => step1 call k v0_2 y0 (fun v0_2_ v0_3_ => J 0 (S0 a0 v0_2_ v0_3_))  (fun v1_5 v1_6 => r (v1_5, v1_6)) x.1 x.2) ?_ ?_ ?_
  · intro x; rfl
  · intro n x; rfl
  intro J0 x
  kernel_rfl
theorem L2_eq (call : Cl) (k : Nat) (J : Nat → St → Option R) (a0 : Y1_0) (v0_3 : (List Bool)) : ∀ (n : Nat) (x : Y1_2), siteI E call n_impl_usedBy k s_impl_usedBy (a0, ()) J 2 n (S2 v0_3 x.1 x.2) = L2 call k v0_3  n x.1 x.2 := by
  refine loop_eq (E := E) (call := call) (f := n_impl_usedBy) (k := k) (s := s_impl_usedBy) (l := (a0, ())) (J := J) (i := 2) (X := Y1_2) (fun x => S2 v0_3 x.1 x.2) (fun n x => L2 call k v0_3  n x.1 x.2) (fun r x => step2 call k v0_3   (fun v2_1 v2_2 => r (v2_1, v2_2)) x.1 x.2) ?_ ?_ ?_
  · intro x; rfl
  · intro n x; rfl
  intro J0 x
  kernel_rfl
theorem L0_eq (call : Cl) (k : Nat) (J : Nat → St → Option R) (a0 : Y1_0) : ∀ (n : Nat) (x : Y1_1), siteI E call n_impl_usedBy k s_impl_usedBy (a0, ()) J 0 n (S0 a0 x.1 x.2) = L0 call k a0  n x.1 x.2 := by
  refine loop_eq (E := E) (call := call) (f := n_impl_usedBy) (k := k) (s := s_impl_usedBy) (l := (a0, ())) (J := J) (i := 0) (X := Y1_1) (fun x => S0 a0 x.1 x.2) (fun n x => L0 call k a0  n x.1 x.2) (fun r x => step0 call k a0  (fun (v0_2 : Int) (y0 : (List Int)) (v1_5_ : Int) (v1_6_ : (List Bool)) => L1 call k v0_2 y0 (fun v0_2_ v0_3_ => r (v0_2_, v0_3_)) k v1_5_ v1_6_) (fun (v0_3 : (List Bool)) (v2_1_ : Int) (v2_2_ : (List Int)) => L2 call k v0_3 k v2_1_ v2_2_) (fun v0_2 v0_3 => r (v0_2, v0_3)) x.1 x.2) ?_ ?_ ?_
  · intro x; rfl
  · intro n x; rfl
  intro J0 x
  refine Eq.trans (b := step0 call k a0  (fun v0_2 y0 v1_5_ v1_6_ => siteI E call n_impl_usedBy k s_impl_usedBy (a0, ()) (upJ 0 J0 J) 1 k (S1 a0 v0_2 y0 v1_5_ v1_6_)) (fun v0_3 v2_1_ v2_2_ => siteI E call n_impl_usedBy k s_impl_usedBy (a0, ()) (upJ 0 J0 J) 2 k (S2 v0_3 v2_1_ v2_2_)) (fun v0_2 v0_3 => J0 (S0 a0 v0_2 v0_3)) x.1 x.2) (by kernel_rfl) ?_
  rw [show (fun (v0_2 : Int) (y0 : (List Int)) (v1_5_ : Int) (v1_6_ : (List Bool)) => siteI E call n_impl_usedBy k s_impl_usedBy (a0, ()) (upJ 0 J0 J) 1 k (S1 a0 v0_2 y0 v1_5_ v1_6_)) = (fun (v0_2 : Int) (y0 : (List Int)) (v1_5_ : Int) (v1_6_ : (List Bool)) => L1 call k v0_2 y0 (fun v0_2_ v0_3_ => (upJ 0 J0 J) 0 (S0 a0 v0_2_ v0_3_)) k v1_5_ v1_6_) from funext fun v0_2 => funext fun y0 => funext fun v1_5_ => funext fun v1_6_ => L1_eq call k (upJ 0 J0 J) a0 v0_2 y0 k (v1_5_, v1_6_)]
  rw [show (fun (v0_3 : (List Bool)) (v2_1_ : Int) (v2_2_ : (List Int)) => siteI E call n_impl_usedBy k s_impl_usedBy (a0, ()) (upJ 0 J0 J) 2 k (S2 v0_3 v2_1_ v2_2_)) = (fun (v0_3 : (List Bool)) (v2_1_ : Int) (v2_2_ : (List Int)) => L2 call k v0_3 k v2_1_ v2_2_) from funext fun v0_3 => funext fun v2_1_ => funext fun v2_2_ => L2_eq call k (upJ 0 J0 J) a0 v0_3 k (v2_1_, v2_2_)]
  all_goals rfl
theorem F_eq (call : Cl) (k : Nat) (a0 : Y1_0) : bodyK E call n_impl_usedBy k s_impl_usedBy (a0, ()) = F call k a0 := by
  exact Eq.trans (b := Fm call k (fun a0 v0_2_ v0_3_ => siteI E call n_impl_usedBy k s_impl_usedBy (a0, ()) (fun _ _ => none) 0 k (S0 a0 v0_2_ v0_3_)) a0) (by kernel_rfl) (congrArg (fun l => Fm call k l a0) (funext fun a0 => funext fun v0_2_ => funext fun v0_3_ => L0_eq call k (fun _ _ => none) a0 k (v0_2_, v0_3_)))
end impl_usedBy
/-! #### impl_CnfOk -/
namespace impl_CnfOk
abbrev R := ((Bool × Unit) × Unit)
def S0 (a0 : Y1_0) (v0_2 : Int) : St := ⟨mkS 35 [(1, .p [1] [] 0), (20, .v (.slc (.slc (.int .i64))) (a0.snd.fst)), (21, .v (.int .i64) ((↑(List.length a0.snd.fst) : Int))), (22, .v (.int .i64) v0_2)], [([1], .box (.v (.pair (.int .i64) (.pair (.slc (.slc (.int .i64))) .unit)) ((a0.fst), ((a0.snd.fst), ()))))]⟩
def step0 (call : Cl) (k : Nat) (a0 : (Int × ((List (List Int)) × Unit)))   (r0 : (Int) → Option R) (v0_2 : Int) : Option R :=
    bif decide (v0_2 < (↑(List.length a0.snd.fst) : Int)) then
    bif decide ((0 : Int) ≤ v0_2) then
      (lget a0.snd.fst v0_2.toNat).bind fun (y0 : List Int) =>
        (call (98 : Nat) s_impl_clauseRight (a0.fst, y0, ())).bind fun (y1 : (Bool × PUnit) × PUnit) =>
          bif !y1.fst.fst then some ((false, ()), ()) else r0 (IntKind.i64.wrap (v0_2 + (1 : Int)))
    else none
  else
    (call (99 : Nat) s_impl_usedBy ((a0.fst, a0.snd.fst, ()), ())).bind fun (y2 : (List Int × PUnit) × PUnit) =>
      some ((decide ((↑(List.length y2.fst.fst) : Int) ≤ (12 : Int)), ()), ())
def L0 (call : Cl) (k : Nat) (a0 : (Int × ((List (List Int)) × Unit)))  : Nat → (Int) → Option R
    | 0, _ => none
    | n + 1, v0_2 => step0 call k a0   (L0 call k a0  n) v0_2
def Fm (call : Cl) (k : Nat) (l0 : ((Int × ((List (List Int)) × Unit))) → (Int) → Option R) (a0 : (Int × ((List (List Int)) × Unit))) : Option R :=
    bif decide (a0.fst < (0 : Int)) then some ((false, ()), ())
  else
    bif decide (a0.fst > (300 : Int)) then some ((false, ()), ())
    else bif decide ((↑(List.length a0.snd.fst) : Int) > (60 : Int)) then some ((false, ()), ()) else l0 a0 (0 : Int)
def F (call : Cl) (k : Nat) (a0 : (Int × ((List (List Int)) × Unit))) : Option R := Fm call k (fun a0_ v0_2_ => L0 call k a0_ k v0_2_) a0
theorem L0_eq (call : Cl) (k : Nat) (J : Nat → St → Option R) (a0 : Y1_0) : ∀ (n : Nat) (x : (Int)), siteI E call n_impl_CnfOk k s_impl_CnfOk (a0, ()) J 0 n (S0 a0 x) = L0 call k a0  n x := by
  refine loop_eq (E := E) (call := call) (f := n_impl_CnfOk) (k := k) (s := s_impl_CnfOk) (l := (a0, ())) (J := J) (i := 0) (X := (Int)) (fun x => S0 a0 x) (fun n x => L0 call k a0  n x) (fun r x => step0 call k a0   (fun v0_2 => r v0_2) x) ?_ ?_ ?_
  · intro x; rfl
  · intro n x; rfl
  intro J0 x
  kernel_rfl
theorem F_eq (call : Cl) (k : Nat) (a0 : Y1_0) : bodyK E call n_impl_CnfOk k s_impl_CnfOk (a0, ()) = F call k a0 := by
  exact Eq.trans (b := Fm call k (fun a0 v0_2_ => siteI E call n_impl_CnfOk k s_impl_CnfOk (a0, ()) (fun _ _ => none) 0 k (S0 a0 v0_2_)) a0) (by kernel_rfl) (congrArg (fun l => Fm call k l a0) (funext fun a0 => funext fun v0_2_ => L0_eq call k (fun _ _ => none) a0 k v0_2_))
end impl_CnfOk
/-! #### spec_UsedIn -/
namespace spec_UsedIn
abbrev R := (((List Int) × Unit) × Unit)
def Fm (call : Cl) (k : Nat)  (a0 : (Int × ((List (List Int)) × Unit))) : Option R :=
    (call (33 : Nat) s_spec_CnfOk (a0, ())).bind fun (y0 : (Bool × PUnit) × PUnit) =>
    bif !y0.fst.fst then some (([], ()), ())
    else
      (call (96 : Nat) s_spec_l14Used (a0, ())).bind fun (y1 : (List Int × PUnit) × PUnit) => some ((y1.fst.fst, ()), ())
def F (call : Cl) (k : Nat) (a0 : (Int × ((List (List Int)) × Unit))) : Option R := Fm call k  a0
theorem F_eq (call : Cl) (k : Nat) (a0 : Y1_0) : bodyK E call n_spec_UsedIn k s_spec_UsedIn (a0, ()) = F call k a0 := by
  kernel_rfl
end spec_UsedIn
/-! #### impl_UsedIn -/
namespace impl_UsedIn
abbrev R := (((List Int) × Unit) × Unit)
def Fm (call : Cl) (k : Nat)  (a0 : (Int × ((List (List Int)) × Unit))) : Option R :=
    (call (35 : Nat) s_impl_CnfOk (a0, ())).bind fun (y0 : (Bool × PUnit) × PUnit) =>
    bif !y0.fst.fst then some (([], ()), ())
    else
      (call (99 : Nat) s_impl_usedBy (a0, ())).bind fun (y1 : (List Int × PUnit) × PUnit) => some ((y1.fst.fst, ()), ())
def F (call : Cl) (k : Nat) (a0 : (Int × ((List (List Int)) × Unit))) : Option R := Fm call k  a0
theorem F_eq (call : Cl) (k : Nat) (a0 : Y1_0) : bodyK E call n_impl_UsedIn k s_impl_UsedIn (a0, ()) = F call k a0 := by
  kernel_rfl
end impl_UsedIn
/-! #### spec_l14Holds -/
namespace spec_l14Holds
abbrev R := ((Bool × Unit) × Unit)
def S1 (a0 : Y1_0) (a1 : (List Bool)) (v0_1 : Int) (v1_2 : Bool) (v1_3 : Int) : St := ⟨mkS 45 [(1, .v (.slc .bool) (a1)), (2, .p [2] [] 0), (5, .v (.int .i64) (v0_1)), (6, .v .bool v1_2), (7, .v (.int .i64) v1_3)], [([2], .box (.v (.pair (.int .i64) (.pair (.slc (.slc (.int .i64))) .unit)) ((a0.fst), ((a0.snd.fst), ()))))]⟩
def S0 (a0 : Y1_0) (a1 : (List Bool)) (v0_1 : Int) : St := ⟨mkS 45 [(1, .v (.slc .bool) (a1)), (2, .p [2] [] 0), (5, .v (.int .i64) v0_1)], [([2], .box (.v (.pair (.int .i64) (.pair (.slc (.slc (.int .i64))) .unit)) ((a0.fst), ((a0.snd.fst), ()))))]⟩
def step1 (call : Cl) (k : Nat) (a0 : (Int × ((List (List Int)) × Unit))) (a1 : (List Bool)) (v0_1 : Int) (r0 : (Int) → Option R)  (r1 : (Bool) → (Int) → Option R) (v1_2 : Bool) (v1_3 : Int) : Option R :=
    bif decide ((0 : Int) ≤ v0_1) then
    (lget a0.snd.fst v0_1.toNat).bind fun (y0 : List Int) =>
      bif decide (v1_3 < (↑y0.length : Int)) then
        bif decide ((0 : Int) ≤ v0_1) then
          (lget a0.snd.fst v0_1.toNat).bind fun (y1 : List Int) =>
            bif decide ((0 : Int) ≤ v1_3) then
              (lget y1 v1_3.toNat).bind fun (y2 : Int) =>
                (call (148 : Nat) s_spec_l14Abs (y2, ())).bind fun (y3 : (Int × PUnit) × PUnit) =>
                  bif decide ((0 : Int) ≤ IntKind.i64.wrap (y3.fst.fst - (1 : Int))) then
                    (lget a1 (IntKind.i64.wrap (y3.fst.fst - (1 : Int))).toNat).bind fun (y4 : Bool) =>
                      bif y4 == decide (y2 > (0 : Int)) then r1 true (IntKind.i64.wrap (v1_3 + (1 : Int)))
                      else r1 v1_2 (IntKind.i64.wrap (v1_3 + (1 : Int)))
                  else none
            else none
        else none
      else bif !v1_2 then some ((false, ()), ()) else r0 (IntKind.i64.wrap (v0_1 + (1 : Int)))
  else none
def L1 (call : Cl) (k : Nat) (a0 : (Int × ((List (List Int)) × Unit))) (a1 : (List Bool)) (v0_1 : Int) (r0 : (Int) → Option R) : Nat → (Bool) → (Int) → Option R
    | 0, _, _ => none
    | n + 1, v1_2, v1_3 => step1 call k a0 a1 v0_1 r0  (L1 call k a0 a1 v0_1 r0 n) v1_2 v1_3
def step0 (call : Cl) (k : Nat) (a0 : (Int × ((List (List Int)) × Unit))) (a1 : (List Bool))  (l1 : ((Int × ((List (List Int)) × Unit))) → ((List Bool)) → (Int) → (Bool) → (Int) → Option R) (r0 : (Int) → Option R) (v0_1 : Int) : Option R :=
    bif decide (v0_1 < (↑a0.snd.fst.length : Int)) then l1 a0 a1 v0_1 false (0 : Int) else some ((true, ()), ())
def L0 (call : Cl) (k : Nat) (a0 : (Int × ((List (List Int)) × Unit))) (a1 : (List Bool))  : Nat → (Int) → Option R
    | 0, _ => none
    | n + 1, v0_1 => step0 call k a0 a1  (fun a0_ a1_ v0_1_ v1_2_ v1_3_ => L1 call k a0_ a1_ v0_1_ (L0 call k a0 a1  n) k v1_2_ v1_3_) (L0 call k a0 a1  n) v0_1
def Fm (call : Cl) (k : Nat) (l0 : ((Int × ((List (List Int)) × Unit))) → ((List Bool)) → (Int) → Option R) (a0 : (Int × ((List (List Int)) × Unit))) (a1 : (List Bool)) : Option R :=
    l0 a0 a1 (0 : Int)
def F (call : Cl) (k : Nat) (a0 : (Int × ((List (List Int)) × Unit))) (a1 : (List Bool)) : Option R := Fm call k (fun a0_ a1_ v0_1_ => L0 call k a0_ a1_ k v0_1_) a0 a1
theorem L1_eq (call : Cl) (k : Nat) (J : Nat → St → Option R) (a0 : Y1_0) (a1 : (List Bool)) (v0_1 : Int) : ∀ (n : Nat) (x : Y1_4), siteI E call n_spec_l14Holds k s_spec_l14Holds (a0, a1, ()) J 1 n (S1 a0 a1 v0_1 x.1 x.2) = L1 call k a0 a1 v0_1 (fun v0_1_ => J 0 (S0 a0 a1 v0_1_)) n x.1 x.2 := by
  refine loop_eq (E := E) (call := call) (f := n_spec_l14Holds) (k := k) (s := s_spec_l14Holds) (l := (a0, a1, ())) (J := J) (i := 1) (X := Y1_4) (fun x => S1 a0 a1 v0_1 x.1 x.2) (fun n x => L1 call k a0 a1 v0_1 (fun v0_1_ => J 0 (S0 a0 a1 v0_1_)) n x.1 x.2) (fun r x => step1 call k a0 a1 v0_1 (fun v0_1_ => J 0 (S0 a0 a1 v0_1_))  (fun v1_2 v1_3 => r (v1_2, v1_3)) x.1 x.2) ?_ ?_ ?_
  · intro x; rfl
  · intro n x; rfl
  intro J0 x
  kernel_rfl
theorem L0_eq (call : Cl) (k : Nat) (J : Nat → St → Option R) (a0 : Y1_0) (a1 : (List Bool)) : ∀ (n : Nat) (x : (Int)), siteI E call n_spec_l14Holds k s_spec_l14Holds (a0, a1, ()) J 0 n (S0 a0 a1 x) = L0 call k a0 a1  n x := by
  refine loop_eq (E := E) (call := call) (f := n_spec_l14Holds) (k := k) (s := s_spec_l14Holds) (l := (a0, a1, ())) (J := J) (i := 0) (X := (Int)) (fun x => S0 a0 a1 x) (fun n x => L0 call k a0 a1  n x) (fun r x => step0 call k a0 a1  (fun (a0 : Y1_0) (a1 : (List Bool)) (v0_1 : Int) (v1_2_ : Bool) (v1_3_ : Int) => L1 call k a0 a1 v0_1 (fun v0_1_ => r v0_1_) k v1_2_ v1_3_) (fun v0_1 => r v0_1) x) ?_ ?_ ?_
  · intro x; rfl
  · intro n x; rfl
  intro J0 x
  refine Eq.trans (b := step0 call k a0 a1  (fun a0 a1 v0_1 v1_2_ v1_3_ => siteI E call n_spec_l14Holds k s_spec_l14Holds (a0, a1, ()) (upJ 0 J0 J) 1 k (S1 a0 a1 v0_1 v1_2_ v1_3_)) (fun v0_1 => J0 (S0 a0 a1 v0_1)) x) (by kernel_rfl) ?_
  rw [show (fun (a0 : Y1_0) (a1 : (List Bool)) (v0_1 : Int) (v1_2_ : Bool) (v1_3_ : Int) => siteI E call n_spec_l14Holds k s_spec_l14Holds (a0, a1, ()) (upJ 0 J0 J) 1 k (S1 a0 a1 v0_1 v1_2_ v1_3_)) = (fun (a0 : Y1_0) (a1 : (List Bool)) (v0_1 : Int) (v1_2_ : Bool) (v1_3_ : Int) => L1 call k a0 a1 v0_1 (fun v0_1_ => (upJ 0 J0 J) 0 (S0 a0 a1 v0_1_)) k v1_2_ v1_3_) from funext fun a0 => funext fun a1 => funext fun v0_1 => funext fun v1_2_ => funext fun v1_3_ => L1_eq call k (upJ 0 J0 J) a0 a1 v0_1 k (v1_2_, v1_3_)]
  all_goals rfl
theorem F_eq (call : Cl) (k : Nat) (a0 : Y1_0) (a1 : (List Bool)) : bodyK E call n_spec_l14Holds k s_spec_l14Holds (a0, a1, ()) = F call k a0 a1 := by
  exact Eq.trans (b := Fm call k (fun a0 a1 v0_1_ => siteI E call n_spec_l14Holds k s_spec_l14Holds (a0, a1, ()) (fun _ _ => none) 0 k (S0 a0 a1 v0_1_)) a0 a1) (by kernel_rfl) (congrArg (fun l => Fm call k l a0 a1) (funext fun a0 => funext fun a1 => funext fun v0_1_ => L0_eq call k (fun _ _ => none) a0 a1 k v0_1_))
end spec_l14Holds
/-! #### spec_IsModel -/
namespace spec_IsModel
abbrev R := ((Bool × Unit) × Unit)
def Fm (call : Cl) (k : Nat)  (a0 : (Int × ((List (List Int)) × Unit))) (a1 : (List Bool)) : Option R :=
    (call (33 : Nat) s_spec_CnfOk (a0, ())).bind fun (y0 : (Bool × PUnit) × PUnit) =>
    bif y0.fst.fst then
      bif (↑a1.length : Int) == a0.fst then
        (call (112 : Nat) s_spec_l14Holds (a0, a1, ())).bind fun (y1 : (Bool × PUnit) × PUnit) =>
          some ((y1.fst.fst, ()), ())
      else some ((false, ()), ())
    else some ((false, ()), ())
def F (call : Cl) (k : Nat) (a0 : (Int × ((List (List Int)) × Unit))) (a1 : (List Bool)) : Option R := Fm call k  a0 a1
theorem F_eq (call : Cl) (k : Nat) (a0 : Y1_0) (a1 : (List Bool)) : bodyK E call n_spec_IsModel k s_spec_IsModel (a0, a1, ()) = F call k a0 a1 := by
  kernel_rfl
end spec_IsModel
/-! #### impl_holds__impl_IsModel_1 -/
namespace impl_holds__impl_IsModel_1
abbrev R := ((Bool × Unit) × Unit)
def S1 (a0 : Y1_0) (a1 : Y1_3) (v0_3 : Int) (y0 : (List Int)) (v1_1 : Bool) (v1_7 : Int) : St := ⟨mkS 39 [(1, .v (.clo 114 (.pair (.sptr (.slc .bool)) .unit)) ((a1.fst), ())), (7, .v .bool v1_1), (13, .v (.slc (.slc (.int .i64))) (a0.snd.fst)), (14, .v (.int .i64) ((↑(List.length a0.snd.fst) : Int))), (15, .v (.int .i64) (v0_3)), (19, .v (.slc (.int .i64)) (y0)), (20, .v (.int .i64) ((↑y0.length : Int))), (21, .v (.int .i64) v1_7)], []⟩
def S0 (a0 : Y1_0) (a1 : Y1_3) (v0_3 : Int) : St := ⟨mkS 39 [(1, .v (.clo 114 (.pair (.sptr (.slc .bool)) .unit)) ((a1.fst), ())), (13, .v (.slc (.slc (.int .i64))) (a0.snd.fst)), (14, .v (.int .i64) ((↑(List.length a0.snd.fst) : Int))), (15, .v (.int .i64) v0_3)], []⟩
def step1 (call : Cl) (k : Nat) (a1 : ((List Bool) × Unit)) (v0_3 : Int) (y0 : (List Int)) (r0 : (Int) → Option R)  (r1 : (Bool) → (Int) → Option R) (v1_1 : Bool) (v1_7 : Int) : Option R :=
    bif decide (v1_7 < (↑y0.length : Int)) then
    bif decide ((0 : Int) ≤ v1_7) then
      (lget y0 v1_7.toNat).bind fun (y1 : Int) =>
        bif v1_1 then r1 true (IntKind.i64.wrap (v1_7 + (1 : Int)))
        else
          (call (150 : Nat) s_impl_variableOf (y1, ())).bind fun (y2 : (Int × PUnit) × PUnit) =>
            (call (114 : Nat) s_impl_IsModel_1 (y2.fst.fst, a1.fst, ())).bind fun (y3 : (Bool × PUnit) × PUnit) =>
              r1 (y3.fst.fst == decide (y1 > (0 : Int))) (IntKind.i64.wrap (v1_7 + (1 : Int)))
    else none
  else bif !v1_1 then some ((false, ()), ()) else r0 (IntKind.i64.wrap (v0_3 + (1 : Int)))
def L1 (call : Cl) (k : Nat) (a1 : ((List Bool) × Unit)) (v0_3 : Int) (y0 : (List Int)) (r0 : (Int) → Option R) : Nat → (Bool) → (Int) → Option R
    | 0, _, _ => none
    | n + 1, v1_1, v1_7 => step1 call k a1 v0_3 y0 r0  (L1 call k a1 v0_3 y0 r0 n) v1_1 v1_7
def step0 (call : Cl) (k : Nat) (a0 : (Int × ((List (List Int)) × Unit))) (a1 : ((List Bool) × Unit))  (l1 : (((List Bool) × Unit)) → (Int) → ((List Int)) → (Bool) → (Int) → Option R) (r0 : (Int) → Option R) (v0_3 : Int) : Option R :=
    bif decide (v0_3 < (↑(List.length a0.snd.fst) : Int)) then
    bif decide ((0 : Int) ≤ v0_3) then (lget a0.snd.fst v0_3.toNat).bind fun (y0 : List Int) => l1 a1 v0_3 y0 false (0 : Int)
    else none
  else some ((true, ()), ())
def L0 (call : Cl) (k : Nat) (a0 : (Int × ((List (List Int)) × Unit))) (a1 : ((List Bool) × Unit))  : Nat → (Int) → Option R
    | 0, _ => none
    | n + 1, v0_3 => step0 call k a0 a1  (fun a1_ v0_3_ y0_ v1_1_ v1_7_ => L1 call k a1_ v0_3_ y0_ (L0 call k a0 a1  n) k v1_1_ v1_7_) (L0 call k a0 a1  n) v0_3
def Fm (call : Cl) (k : Nat) (l0 : ((Int × ((List (List Int)) × Unit))) → (((List Bool) × Unit)) → (Int) → Option R) (a0 : (Int × ((List (List Int)) × Unit))) (a1 : ((List Bool) × Unit)) : Option R :=
    l0 a0 a1 (0 : Int)
def F (call : Cl) (k : Nat) (a0 : (Int × ((List (List Int)) × Unit))) (a1 : ((List Bool) × Unit)) : Option R := Fm call k (fun a0_ a1_ v0_3_ => L0 call k a0_ a1_ k v0_3_) a0 a1
theorem L1_eq (call : Cl) (k : Nat) (J : Nat → St → Option R) (a0 : Y1_0) (a1 : Y1_3) (v0_3 : Int) (y0 : (List Int)) : ∀ (n : Nat) (x : Y1_4), siteI E call n_impl_holds__impl_IsModel_1 k s_impl_holds__impl_IsModel_1 (a0, a1, ()) J 1 n (S1 a0 a1 v0_3 y0 x.1 x.2) = L1 call k a1 v0_3 y0 (fun v0_3_ => J 0 (S0 a0 a1 v0_3_)) n x.1 x.2 := by
  refine loop_eq (E := E) (call := call) (f := n_impl_holds__impl_IsModel_1) (k := k) (s := s_impl_holds__impl_IsModel_1) (l := (a0, a1, ())) (J := J) (i := 1) (X := Y1_4) (fun x => S1 a0 a1 v0_3 y0 x.1 x.2) (fun n x => L1 call k a1 v0_3 y0 (fun v0_3_ => J 0 (S0 a0 a1 v0_3_)) n x.1 x.2) (fun r x => step1 call k a1 v0_3 y0 (fun v0_3_ => J 0 (S0 a0 a1 v0_3_))  (fun v1_1 v1_7 => r (v1_1, v1_7)) x.1 x.2) ?_ ?_ ?_
  · intro x; rfl
  · intro n x; rfl
  intro J0 x
  kernel_rfl
theorem L0_eq (call : Cl) (k : Nat) (J : Nat → St → Option R) (a0 : Y1_0) (a1 : Y1_3) : ∀ (n : Nat) (x : (Int)), siteI E call n_impl_holds__impl_IsModel_1 k s_impl_holds__impl_IsModel_1 (a0, a1, ()) J 0 n (S0 a0 a1 x) = L0 call k a0 a1  n x := by
  refine loop_eq (E := E) (call := call) (f := n_impl_holds__impl_IsModel_1) (k := k) (s := s_impl_holds__impl_IsModel_1) (l := (a0, a1, ())) (J := J) (i := 0) (X := (Int)) (fun x => S0 a0 a1 x) (fun n x => L0 call k a0 a1  n x) (fun r x => step0 call k a0 a1  (fun (a1 : Y1_3) (v0_3 : Int) (y0 : (List Int)) (v1_1_ : Bool) (v1_7_ : Int) => L1 call k a1 v0_3 y0 (fun v0_3_ => r v0_3_) k v1_1_ v1_7_) (fun v0_3 => r v0_3) x) ?_ ?_ ?_
  · intro x; rfl
  · intro n x; rfl
  intro J0 x
  refine Eq.trans (b := step0 call k a0 a1  (fun a1 v0_3 y0 v1_1_ v1_7_ => siteI E call n_impl_holds__impl_IsModel_1 k s_impl_holds__impl_IsModel_1 (a0, a1, ()) (upJ 0 J0 J) 1 k (S1 a0 a1 v0_3 y0 v1_1_ v1_7_)) (fun v0_3 => J0 (S0 a0 a1 v0_3)) x) (by kernel_rfl) ?_
  rw [show (fun (a1 : Y1_3) (v0_3 : Int) (y0 : (List Int)) (v1_1_ : Bool) (v1_7_ : Int) => siteI E call n_impl_holds__impl_IsModel_1 k s_impl_holds__impl_IsModel_1 (a0, a1, ()) (upJ 0 J0 J) 1 k (S1 a0 a1 v0_3 y0 v1_1_ v1_7_)) = (fun (a1 : Y1_3) (v0_3 : Int) (y0 : (List Int)) (v1_1_ : Bool) (v1_7_ : Int) => L1 call k a1 v0_3 y0 (fun v0_3_ => (upJ 0 J0 J) 0 (S0 a0 a1 v0_3_)) k v1_1_ v1_7_) from funext fun a1 => funext fun v0_3 => funext fun y0 => funext fun v1_1_ => funext fun v1_7_ => L1_eq call k (upJ 0 J0 J) a0 a1 v0_3 y0 k (v1_1_, v1_7_)]
  all_goals rfl
theorem F_eq (call : Cl) (k : Nat) (a0 : Y1_0) (a1 : Y1_3) : bodyK E call n_impl_holds__impl_IsModel_1 k s_impl_holds__impl_IsModel_1 (a0, a1, ()) = F call k a0 a1 := by
  exact Eq.trans (b := Fm call k (fun a0 a1 v0_3_ => siteI E call n_impl_holds__impl_IsModel_1 k s_impl_holds__impl_IsModel_1 (a0, a1, ()) (fun _ _ => none) 0 k (S0 a0 a1 v0_3_)) a0 a1) (by kernel_rfl) (congrArg (fun l => Fm call k l a0 a1) (funext fun a0 => funext fun a1 => funext fun v0_3_ => L0_eq call k (fun _ _ => none) a0 a1 k v0_3_))
end impl_holds__impl_IsModel_1
/-! #### impl_IsModel_1 -/
namespace impl_IsModel_1
abbrev R := ((Bool × Unit) × Unit)
def Fm (call : Cl) (k : Nat)  (a0 : Int) (a1 : (List Bool)) : Option R :=
    bif decide ((0 : Int) ≤ IntKind.i64.wrap (a0 - (1 : Int))) then
    (lget a1 (IntKind.i64.wrap (a0 - (1 : Int))).toNat).bind fun (y0 : Bool) => some ((y0, ()), ())
  else none
def F (call : Cl) (k : Nat) (a0 : Int) (a1 : (List Bool)) : Option R := Fm call k  a0 a1
theorem F_eq (call : Cl) (k : Nat) (a0 : Int) (a1 : (List Bool)) : bodyK E call n_impl_IsModel_1 k s_impl_IsModel_1 (a0, a1, ()) = F call k a0 a1 := by
  kernel_rfl
end impl_IsModel_1
/-! #### impl_IsModel -/
namespace impl_IsModel
abbrev R := ((Bool × Unit) × Unit)
def Fm (call : Cl) (k : Nat)  (a0 : (Int × ((List (List Int)) × Unit))) (a1 : (List Bool)) : Option R :=
    (call (35 : Nat) s_impl_CnfOk (a0, ())).bind fun (y0 : (Bool × PUnit) × PUnit) =>
    bif !y0.fst.fst then some ((false, ()), ())
    else
      bif (↑a1.length : Int) != a0.fst then some ((false, ()), ())
      else
        (call (11500113 : Nat) s_impl_holds__impl_IsModel_1 (a0, (a1, ()), ())).bind fun (y1 : (Bool × PUnit) × PUnit) =>
          some ((y1.fst.fst, ()), ())
def F (call : Cl) (k : Nat) (a0 : (Int × ((List (List Int)) × Unit))) (a1 : (List Bool)) : Option R := Fm call k  a0 a1
theorem F_eq (call : Cl) (k : Nat) (a0 : Y1_0) (a1 : (List Bool)) : bodyK E call n_impl_IsModel k s_impl_IsModel (a0, a1, ()) = F call k a0 a1 := by
  kernel_rfl
end impl_IsModel
end Go.Proofs.Ytcmgjdmhemfecaa.Pf
