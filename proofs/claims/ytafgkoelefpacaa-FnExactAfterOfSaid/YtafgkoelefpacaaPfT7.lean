/- Printed texts: what the reading of these functions is. No condition. -/
import Derived.Test.YtafgkoelefpacaaPvEnv
import Derived.KernelRfl
set_option linter.unusedVariables false
set_option maxHeartbeats 2000000
namespace Go.Proofs.Ytafgkoelefpacaa.Pf
open Go Go.Pv IntKind
abbrev Y7_0 : Type := ((Int × ((List (Int × (Int × Unit))) × ((List (Int × (Int × Unit))) × (Int × ((List Int) × ((List (Int × (Int × ((List (Int × (Int × Unit))) × ((List (Int × (Int × Unit))) × Unit))))) × Unit)))))))
abbrev Y7_1 : Type := (Int × ((List (Int × (Int × Unit))) × ((List (Int × (Int × Unit))) × (Int × ((List Int) × ((List (Int × (Int × ((List (Int × (Int × Unit))) × ((List (Int × (Int × Unit))) × Unit))))) × Unit))))))
abbrev Y7_2 : Type := (((Int × List Tr × List Tr × Unit) × Bool × Unit) × (List (Int × Int × List (Int × Int × Unit) × List (Int × Int × Unit) × Unit) × Int × Int × Int × Unit) × Unit)
abbrev Y7_3 : Type := (List (Int × (Int × ((List (Int × (Int × Unit))) × ((List (Int × (Int × Unit))) × Unit)))))
abbrev Y7_4 : Type := (Int × ((List Go.Pv.Tr) × ((List Go.Pv.Tr) × Unit)))
abbrev Y7_5 : Type := ((Int) × ((List (List Int))))
abbrev Y7_6 : Type := (List (Int × (Int × Unit)))
abbrev Y7_7 : Type := ((Int) × ((List Int)))
abbrev Y7_8 : Type := (List (List Int))
abbrev Y7_9 : Type := (Bool × Unit)
/-! #### spec_StartOf -/
namespace spec_StartOf
abbrev R := ((((List Int) × ((List (List Int)) × Unit)) × (Bool × Unit)) × Unit)
def S2 (a0 : Y7_1) (v1_3 : (List Int)) (v2_0 : Int) (v2_1 : Y7_8) : St := ⟨mkS 114 [(3, .p [500003] [] 0), (6, .p [500006] [] 0), (8, .p [500008] [] 0), (11, .v tI v2_0)], [([500008, 5, 1, 0], .list 23 (.own 2 tI) v2_1), ([500008, 5, 0], .list 2 tI (v1_3 ++ List.replicate a0.2.2.2.1.toNat (Int.ofNat (nat_lit 0)))), ([500008], .box (.pr (.ref [500008, 5, 0]) (.pr (.ref [500008, 5, 1, 0]) (.v .unit ())))), ([500006, 5, 1, 0], .list 23 (.own 2 tI) ([])), ([500006, 5, 0], .list 2 tI ([])), ([500006], .box (.pr (.ref [500006, 5, 0]) (.pr (.ref [500006, 5, 1, 0]) (.v .unit ())))), ([500003], .box (.v tPg ((a0.1), ((a0.2.1), ((a0.2.2.1), ((a0.2.2.2.1), ((a0.2.2.2.2.1), ((a0.2.2.2.2.2.1), ()))))))))]⟩
def S1 (a0 : Y7_1) (a2 : (List Int)) (v1_1 : Int) (v1_3 : (List Int)) : St := ⟨mkS 114 [(2, .v (.slc tI) (a2)), (3, .p [500003] [] 0), (6, .p [500006] [] 0), (8, .p [500008] [] 0), (10, .v tI v1_1)], [([500008, 5, 1, 0], .list 23 (.own 2 tI) ([])), ([500008, 5, 0], .list 2 tI v1_3), ([500008], .box (.pr (.ref [500008, 5, 0]) (.pr (.ref [500008, 5, 1, 0]) (.v .unit ())))), ([500006, 5, 1, 0], .list 23 (.own 2 tI) ([])), ([500006, 5, 0], .list 2 tI ([])), ([500006], .box (.pr (.ref [500006, 5, 0]) (.pr (.ref [500006, 5, 1, 0]) (.v .unit ())))), ([500003], .box (.v tPg ((a0.1), ((a0.2.1), ((a0.2.2.1), ((a0.2.2.2.1), ((a0.2.2.2.2.1), ((a0.2.2.2.2.2.1), ()))))))))]⟩
def S0 (a0 : Y7_1) (a1 : (List Int)) (a2 : (List Int)) (v0_2 : Int) (v0_4 : (List Int)) : St := ⟨mkS 114 [(1, .v (.slc tI) (a1)), (2, .v (.slc tI) (a2)), (3, .p [500003] [] 0), (6, .p [500006] [] 0), (8, .p [500008] [] 0), (9, .v tI v0_2)], [([500008, 5, 1, 0], .list 23 (.own 2 tI) ([])), ([500008, 5, 0], .list 2 tI v0_4), ([500008], .box (.pr (.ref [500008, 5, 0]) (.pr (.ref [500008, 5, 1, 0]) (.v .unit ())))), ([500006, 5, 1, 0], .list 23 (.own 2 tI) ([])), ([500006, 5, 0], .list 2 tI ([])), ([500006], .box (.pr (.ref [500006, 5, 0]) (.pr (.ref [500006, 5, 1, 0]) (.v .unit ())))), ([500003], .box (.v tPg ((a0.1), ((a0.2.1), ((a0.2.2.1), ((a0.2.2.2.1), ((a0.2.2.2.2.1), ((a0.2.2.2.2.2.1), ()))))))))]⟩
def step2 (call : Cl) (k : Nat) (a0 : Y7_1) (v1_3 : (List Int)) (r2 : (Int) → (Y7_8) → Option R) (v2_0 : Int) (v2_1 : Y7_8) : Option R := bif decide (v2_0 < (↑a0.2.2.2.2.1.length : Int)) then bif decide (0 ≤ v2_0) then (lget a0.2.2.2.2.1 v2_0.toNat).bind fun (y9 : Int) => bif decide (y9 = y9) && decide (0 ≤ y9) && decide (y9 * (↑ti2.bytes : Int) ≤ 281474976710656) then bif decide ((v2_1.length + [List.replicate y9.toNat (Int.ofNat (nat_lit 0))].length) * ti23.bytes ≤ 140737488355328) then r2 (i64.wrap (v2_0 + 1)) (v2_1 ++ [List.replicate y9.toNat (Int.ofNat (nat_lit 0))]) else none else none else none else some (((v1_3 ++ List.replicate a0.2.2.2.1.toNat (Int.ofNat (nat_lit 0)), v2_1, ()), true, ()), ())
def L2 (call : Cl) (k : Nat) (a0 : Y7_1) (v1_3 : (List Int)) : Nat → (Int) → (Y7_8) → Option R | 0, _, _ => none | n + 1, v2_0, v2_1 => step2 call k a0 v1_3 (L2 call k a0 v1_3 n) v2_0 v2_1
def step1 (call : Cl) (k : Nat) (a0 : Y7_1) (a2 : (List Int)) (l2 : Y7_0 → ((List Int)) → (Int) → (Y7_8) → Option R) (r1 : (Int) → ((List Int)) → Option R) (v1_1 : Int) (v1_3 : (List Int)) : Option R := bif decide (v1_1 < (↑a2.length : Int)) then bif decide (0 ≤ v1_1) then (lget a2 v1_1.toNat).bind fun (y5 : Int) => bif decide (0 ≤ v1_1) then (lget a0.2.2.1 v1_1.toNat).bind fun (y6 : Int × Int × Unit) => (call 43 s_spec_l1In (y5, 0, y6.1, ())).bind fun (y7 : Y7_9 × Unit) => bif !y7.1.1 then some ((([], [], ()), false, ()), ()) else bif decide (0 ≤ v1_1) then (lget a2 v1_1.toNat).bind fun (y8 : Int) => bif decide ((v1_3.length + [y8].length) * ti2.bytes ≤ 140737488355328) then r1 (i64.wrap (v1_1 + 1)) (v1_3 ++ [y8]) else none else none else none else none else bif decide (0 ≤ a0.2.2.2.1) && decide ((v1_3.length + a0.2.2.2.1.toNat) * ti2.bytes ≤ 140737488355328) then l2 a0 v1_3 0 [] else none
def L1 (call : Cl) (k : Nat) (a0 : Y7_1) (a2 : (List Int)) : Nat → (Int) → ((List Int)) → Option R | 0, _, _ => none | n + 1, v1_1, v1_3 => step1 call k a0 a2 (fun a0_ v1_3_ v2_0_ v2_1_ => L2 call k a0_ v1_3_ k v2_0_ v2_1_) (L1 call k a0 a2 n) v1_1 v1_3
def step0 (call : Cl) (k : Nat) (a0 : Y7_1) (a1 : (List Int)) (a2 : (List Int)) (l1 : Y7_0 → ((List Int)) → (Int) → ((List Int)) → Option R) (r0 : (Int) → ((List Int)) → Option R) (v0_2 : Int) (v0_4 : (List Int)) : Option R := bif decide (v0_2 < (↑a1.length : Int)) then bif decide (0 ≤ v0_2) then (lget a1 v0_2.toNat).bind fun (y1 : Int) => bif decide (0 ≤ v0_2) then (lget a0.2.1 v0_2.toNat).bind fun (y2 : Int × Int × Unit) => (call 43 s_spec_l1In (y1, 0, y2.1, ())).bind fun (y3 : Y7_9 × Unit) => bif !y3.1.1 then some ((([], [], ()), false, ()), ()) else bif decide (0 ≤ v0_2) then (lget a1 v0_2.toNat).bind fun (y4 : Int) => bif decide ((v0_4.length + [y4].length) * ti2.bytes ≤ 140737488355328) then r0 (i64.wrap (v0_2 + 1)) (v0_4 ++ [y4]) else none else none else none else none else l1 a0 a2 0 v0_4
def L0 (call : Cl) (k : Nat) (a0 : Y7_1) (a1 : (List Int)) (a2 : (List Int)) : Nat → (Int) → ((List Int)) → Option R | 0, _, _ => none | n + 1, v0_2, v0_4 => step0 call k a0 a1 a2 (fun a0_ a2_ v1_1_ v1_3_ => L1 call k a0_ a2_ k v1_1_ v1_3_) (L0 call k a0 a1 a2 n) v0_2 v0_4
def Fm (call : Cl) (k : Nat) (l0 : Y7_0 → ((List Int)) → ((List Int)) → (Int) → ((List Int)) → Option R) (a0 : Y7_1) (a1 : (List Int)) (a2 : (List Int)) : Option R := (call 22 s_spec_ProgOk (a0, ())).bind fun (y0 : Y7_9 × Unit) => bif !y0.1.1 then some ((([], [], ()), false, ()), ()) else bif (↑a1.length : Int) != (↑(List.length a0.2.1) : Int) then some ((([], [], ()), false, ()), ()) else bif (↑a2.length : Int) != (↑(List.length a0.2.2.1) : Int) then some ((([], [], ()), false, ()), ()) else l0 a0 a1 a2 0 []
def F (call : Cl) (k : Nat) (a0 : Y7_1) (a1 : (List Int)) (a2 : (List Int)) : Option R := Fm call k (fun a0_ a1_ a2_ v0_2_ v0_4_ => L0 call k a0_ a1_ a2_ k v0_2_ v0_4_) a0 a1 a2
theorem L2_eq (call : Cl) (k : Nat) (J : Nat → St → Option R) (a0 : Y7_1) (a1 : (List Int)) (a2 : (List Int)) (v1_3 : (List Int)) : ∀ (n : Nat) (x : Y7_5), siteI E call n_spec_StartOf k s_spec_StartOf (a0, a1, a2, ()) J 2 n (S2 a0 v1_3 x.1 x.2) = L2 call k a0 v1_3 n x.1 x.2 := by
  refine loop_eq (s := s_spec_StartOf) (fun x => S2 a0 v1_3 x.1 x.2) (fun n x => L2 call k a0 v1_3 n x.1 x.2) (fun r x => step2 call k a0 v1_3 (fun v2_0 v2_1 => r (v2_0, v2_1)) x.1 x.2) (fun _ => rfl) (fun _ _ => rfl) fun J0 x => ?_
  kernel_rfl
theorem L1_eq (call : Cl) (k : Nat) (J : Nat → St → Option R) (a0 : Y7_1) (a1 : (List Int)) (a2 : (List Int)) : ∀ (n : Nat) (x : Y7_7), siteI E call n_spec_StartOf k s_spec_StartOf (a0, a1, a2, ()) J 1 n (S1 a0 a2 x.1 x.2) = L1 call k a0 a2 n x.1 x.2 := by
  refine loop_eq (s := s_spec_StartOf) (fun x => S1 a0 a2 x.1 x.2) (fun n x => L1 call k a0 a2 n x.1 x.2) (fun r x => step1 call k a0 a2 (fun (a0 : Y7_1) (v1_3 : (List Int)) (v2_0_ : Int) (v2_1_ : Y7_8) => L2 call k a0 v1_3 k v2_0_ v2_1_) (fun v1_1 v1_3 => r (v1_1, v1_3)) x.1 x.2) (fun _ => rfl) (fun _ _ => rfl) fun J0 x => ?_
  refine Eq.trans (b := step1 call k a0 a2 (fun a0 v1_3 v2_0_ v2_1_ => siteI E call n_spec_StartOf k s_spec_StartOf (a0, a1, a2, ()) (upJ 1 J0 J) 2 k (S2 a0 v1_3 v2_0_ v2_1_)) (fun v1_1 v1_3 => J0 (S1 a0 a2 v1_1 v1_3)) x.1 x.2) (by kernel_rfl) ?_
  rw [show (fun (a0 : Y7_1) (v1_3 : (List Int)) (v2_0_ : Int) (v2_1_ : Y7_8) => siteI E call n_spec_StartOf k s_spec_StartOf (a0, a1, a2, ()) (upJ 1 J0 J) 2 k (S2 a0 v1_3 v2_0_ v2_1_)) = (fun (a0 : Y7_1) (v1_3 : (List Int)) (v2_0_ : Int) (v2_1_ : Y7_8) => L2 call k a0 v1_3 k v2_0_ v2_1_) from funext fun a0 => funext fun v1_3 => funext fun v2_0_ => funext fun v2_1_ => L2_eq call k (upJ 1 J0 J) a0 a1 a2 v1_3 k (v2_0_, v2_1_)]
  all_goals rfl
theorem L0_eq (call : Cl) (k : Nat) (J : Nat → St → Option R) (a0 : Y7_1) (a1 : (List Int)) (a2 : (List Int)) : ∀ (n : Nat) (x : Y7_7), siteI E call n_spec_StartOf k s_spec_StartOf (a0, a1, a2, ()) J 0 n (S0 a0 a1 a2 x.1 x.2) = L0 call k a0 a1 a2 n x.1 x.2 := by
  refine loop_eq (s := s_spec_StartOf) (fun x => S0 a0 a1 a2 x.1 x.2) (fun n x => L0 call k a0 a1 a2 n x.1 x.2) (fun r x => step0 call k a0 a1 a2 (fun (a0 : Y7_1) (a2 : (List Int)) (v1_1_ : Int) (v1_3_ : (List Int)) => L1 call k a0 a2 k v1_1_ v1_3_) (fun v0_2 v0_4 => r (v0_2, v0_4)) x.1 x.2) (fun _ => rfl) (fun _ _ => rfl) fun J0 x => ?_
  refine Eq.trans (b := step0 call k a0 a1 a2 (fun a0 a2 v1_1_ v1_3_ => siteI E call n_spec_StartOf k s_spec_StartOf (a0, a1, a2, ()) (upJ 0 J0 J) 1 k (S1 a0 a2 v1_1_ v1_3_)) (fun v0_2 v0_4 => J0 (S0 a0 a1 a2 v0_2 v0_4)) x.1 x.2) (by kernel_rfl) ?_
  rw [show (fun (a0 : Y7_1) (a2 : (List Int)) (v1_1_ : Int) (v1_3_ : (List Int)) => siteI E call n_spec_StartOf k s_spec_StartOf (a0, a1, a2, ()) (upJ 0 J0 J) 1 k (S1 a0 a2 v1_1_ v1_3_)) = (fun (a0 : Y7_1) (a2 : (List Int)) (v1_1_ : Int) (v1_3_ : (List Int)) => L1 call k a0 a2 k v1_1_ v1_3_) from funext fun a0 => funext fun a2 => funext fun v1_1_ => funext fun v1_3_ => L1_eq call k (upJ 0 J0 J) a0 a1 a2 k (v1_1_, v1_3_)]
  all_goals rfl
theorem F_eq (call : Cl) (k : Nat) (a0 : Y7_1) (a1 : (List Int)) (a2 : (List Int)) : bodyK E call n_spec_StartOf k s_spec_StartOf (a0, a1, a2, ()) = F call k a0 a1 a2 := by
  exact Eq.trans (b := Fm call k (fun a0 a1 a2 v0_2_ v0_4_ => siteI E call n_spec_StartOf k s_spec_StartOf (a0, a1, a2, ()) (fun _ _ => none) 0 k (S0 a0 a1 a2 v0_2_ v0_4_)) a0 a1 a2) (by kernel_rfl) (congrArg (fun l => Fm call k l a0 a1 a2) (funext fun a0 => funext fun a1 => funext fun a2 => funext fun v0_2_ => funext fun v0_4_ => L0_eq call k (fun _ _ => none) a0 a1 a2 k (v0_2_, v0_4_)))
end spec_StartOf
/-! #### spec_l6All -/
namespace spec_l6All
abbrev R := ((((Int × ((List (Int × (Int × Unit))) × ((List (Int × (Int × Unit))) × (Int × ((List Int) × ((List (Int × (Int × ((List (Int × (Int × Unit))) × ((List (Int × (Int × Unit))) × Unit))))) × Unit)))))) × (((List Int) × ((List (List Int)) × Unit)) × (((List Int) × (Int × (Int × Unit))) × (Bool × Unit)))) × (Bool × Unit)) × Unit)
def Fm (call : Cl) (k : Nat) (a0 : Y7_1) (a1 : (List Int)) (a2 : (List Int)) : Option R := (call 51 s_spec_StartOf (a0, a1, a2, ())).bind fun (y0 : (((List Int × List (List Int) × Unit) × Bool × Unit) × Unit)) => bif !y0.1.2.1 then some (((a0, y0.1.1, ([], 0, 0, ()), false, ()), false, ()), ()) else (call 52 s_spec_l6Run ((a0, y0.1.1, ([], 0, 0, ()), false, ()), 0, (↑(List.length a0.2.2.2.2.2.1) : Int), ())).bind fun (y1 : (Unit × ((Int × List (Int × Int × Unit) × List (Int × Int × Unit) × Int × List Int × List (Int × Int × List (Int × Int × Unit) × List (Int × Int × Unit) × Unit) × Unit) × (List Int × List (List Int) × Unit) × (List Int × Int × Int × Unit) × Bool × Unit) × Unit)) => some ((y1.2.1, true, ()), ())
def F (call : Cl) (k : Nat) (a0 : Y7_1) (a1 : (List Int)) (a2 : (List Int)) : Option R := Fm call k a0 a1 a2
theorem F_eq (call : Cl) (k : Nat) (a0 : Y7_1) (a1 : (List Int)) (a2 : (List Int)) : bodyK E call n_spec_l6All k s_spec_l6All (a0, a1, a2, ()) = F call k a0 a1 a2 := by kernel_rfl
end spec_l6All
/-! #### spec_AfterOf -/
namespace spec_AfterOf
abbrev R := ((((List Int) × ((List (List Int)) × Unit)) × (Bool × Unit)) × Unit)
def Fm (call : Cl) (k : Nat) (a0 : Y7_1) (a1 : (List Int)) (a2 : (List Int)) : Option R := (call 32 s_spec_l6All (a0, a1, a2, ())).bind fun (y0 : ((((Int × List (Int × Int × Unit) × List (Int × Int × Unit) × Int × List Int × List (Int × Int × List (Int × Int × Unit) × List (Int × Int × Unit) × Unit) × Unit) × (List Int × List (List Int) × Unit) × (List Int × Int × Int × Unit) × Bool × Unit) × Bool × Unit) × Unit)) => some ((y0.1.1.2.1, y0.1.2.1, ()), ())
def F (call : Cl) (k : Nat) (a0 : Y7_1) (a1 : (List Int)) (a2 : (List Int)) : Option R := Fm call k a0 a1 a2
theorem F_eq (call : Cl) (k : Nat) (a0 : Y7_1) (a1 : (List Int)) (a2 : (List Int)) : bodyK E call n_spec_AfterOf k s_spec_AfterOf (a0, a1, a2, ()) = F call k a0 a1 a2 := by kernel_rfl
end spec_AfterOf
/-! #### impl_within -/
namespace impl_within
abbrev R := ((Bool × Unit) × Unit)
def S0 (a0 : (List Int)) (a1 : Y7_6) (v0_3 : Int) : St := ⟨mkS 31 [(1, .v tTl (a1)), (12, .v (.slc tI) (a0)), (13, .v tI ((↑a0.length : Int))), (14, .v tI v0_3)], []⟩
def step0 (call : Cl) (k : Nat) (a0 : (List Int)) (a1 : Y7_6) (r0 : (Int) → Option R) (v0_3 : Int) : Option R := bif decide (v0_3 < (↑a0.length : Int)) then bif decide (0 ≤ v0_3) then (lget a0 v0_3.toNat).bind fun (y0 : Int) => bif decide (y0 < 0) then some ((false, ()), ()) else bif decide (0 ≤ v0_3) then (lget a1 v0_3.toNat).bind fun (y1 : Int × Int × Unit) => bif decide (y0 > y1.1) then some ((false, ()), ()) else r0 (i64.wrap (v0_3 + 1)) else none else none else some ((true, ()), ())
def L0 (call : Cl) (k : Nat) (a0 : (List Int)) (a1 : Y7_6) : Nat → (Int) → Option R | 0, _ => none | n + 1, v0_3 => step0 call k a0 a1 (L0 call k a0 a1 n) v0_3
def Fm (call : Cl) (k : Nat) (l0 : ((List Int)) → (Y7_6) → (Int) → Option R) (a0 : (List Int)) (a1 : Y7_6) : Option R := bif (↑a0.length : Int) != (↑a1.length : Int) then some ((false, ()), ()) else l0 a0 a1 0
def F (call : Cl) (k : Nat) (a0 : (List Int)) (a1 : Y7_6) : Option R := Fm call k (fun a0_ a1_ v0_3_ => L0 call k a0_ a1_ k v0_3_) a0 a1
theorem L0_eq (call : Cl) (k : Nat) (J : Nat → St → Option R) (a0 : (List Int)) (a1 : Y7_6) : ∀ (n : Nat) (x : (Int)), siteI E call n_impl_within k s_impl_within (a0, a1, ()) J 0 n (S0 a0 a1 x) = L0 call k a0 a1 n x := by
  refine loop_eq (s := s_impl_within) (fun x => S0 a0 a1 x) (fun n x => L0 call k a0 a1 n x) (fun r x => step0 call k a0 a1 (fun v0_3 => r v0_3) x) (fun _ => rfl) (fun _ _ => rfl) fun J0 x => ?_
  kernel_rfl
theorem F_eq (call : Cl) (k : Nat) (a0 : (List Int)) (a1 : Y7_6) : bodyK E call n_impl_within k s_impl_within (a0, a1, ()) = F call k a0 a1 := by
  exact Eq.trans (b := Fm call k (fun a0 a1 v0_3_ => siteI E call n_impl_within k s_impl_within (a0, a1, ()) (fun _ _ => none) 0 k (S0 a0 a1 v0_3_)) a0 a1) (by kernel_rfl) (congrArg (fun l => Fm call k l a0 a1) (funext fun a0 => funext fun a1 => funext fun v0_3_ => L0_eq call k (fun _ _ => none) a0 a1 k v0_3_))
end impl_within
/-! #### impl_startAt -/
namespace impl_startAt
abbrev R := ((((List Int) × ((List (List Int)) × Unit)) × Unit) × Unit)
def S0 (a0 : Y7_1) (a1 : (List Int)) (a2 : (List Int)) (v0_2 : Int) (v0_3 : Y7_8) : St := ⟨mkS 42 [(6, .p [500006] [] 0), (7, .p [500007] [] 0), (27, .v (.slc tI) (a0.2.2.2.2.1)), (28, .v tI ((↑(List.length a0.2.2.2.2.1) : Int))), (29, .v tI v0_2)], [([500007, 5, 1, 0], .list 23 (.own 2 tI) v0_3), ([500007, 5, 0], .list 2 tI ([] ++ a1 ++ a2 ++ List.replicate (Int.toNat a0.2.2.2.1) (Int.ofNat (nat_lit 0)))), ([500007], .box (.pr (.ref [500007, 5, 0]) (.pr (.ref [500007, 5, 1, 0]) (.v .unit ())))), ([500006, 5, 1, 0], .list 23 (.own 2 tI) ([])), ([500006, 5, 0], .list 2 tI ([])), ([500006], .box (.pr (.ref [500006, 5, 0]) (.pr (.ref [500006, 5, 1, 0]) (.v .unit ()))))]⟩
def step0 (call : Cl) (k : Nat) (a0 : Y7_1) (a1 : (List Int)) (a2 : (List Int)) (r0 : (Int) → (Y7_8) → Option R) (v0_2 : Int) (v0_3 : Y7_8) : Option R := bif decide (v0_2 < (↑(List.length a0.2.2.2.2.1) : Int)) then bif decide (0 ≤ v0_2) then (lget a0.2.2.2.2.1 v0_2.toNat).bind fun (y0 : Int) => bif decide (y0 = y0) && decide (0 ≤ y0) && decide (y0 * (↑ti2.bytes : Int) ≤ 281474976710656) then bif decide ((v0_3.length + [List.replicate y0.toNat (Int.ofNat (nat_lit 0))].length) * ti23.bytes ≤ 140737488355328) then r0 (i64.wrap (v0_2 + 1)) (v0_3 ++ [List.replicate y0.toNat (Int.ofNat (nat_lit 0))]) else none else none else none else some ((([] ++ a1 ++ a2 ++ List.replicate (Int.toNat a0.2.2.2.1) (Int.ofNat (nat_lit 0)), v0_3, ()), ()), ())
def L0 (call : Cl) (k : Nat) (a0 : Y7_1) (a1 : (List Int)) (a2 : (List Int)) : Nat → (Int) → (Y7_8) → Option R | 0, _, _ => none | n + 1, v0_2, v0_3 => step0 call k a0 a1 a2 (L0 call k a0 a1 a2 n) v0_2 v0_3
def Fm (call : Cl) (k : Nat) (l0 : Y7_0 → ((List Int)) → ((List Int)) → (Int) → (Y7_8) → Option R) (a0 : Y7_1) (a1 : (List Int)) (a2 : (List Int)) : Option R := bif decide ((0 + a1.length) * ti2.bytes ≤ 140737488355328) then bif decide ((([] ++ a1).length + a2.length) * ti2.bytes ≤ 140737488355328) then bif decide (0 ≤ a0.2.2.2.1) && decide ((([] ++ a1 ++ a2).length + Int.toNat a0.2.2.2.1) * ti2.bytes ≤ 140737488355328) then l0 a0 a1 a2 0 [] else none else none else none
def F (call : Cl) (k : Nat) (a0 : Y7_1) (a1 : (List Int)) (a2 : (List Int)) : Option R := Fm call k (fun a0_ a1_ a2_ v0_2_ v0_3_ => L0 call k a0_ a1_ a2_ k v0_2_ v0_3_) a0 a1 a2
theorem L0_eq (call : Cl) (k : Nat) (J : Nat → St → Option R) (a0 : Y7_1) (a1 : (List Int)) (a2 : (List Int)) : ∀ (n : Nat) (x : Y7_5), siteI E call n_impl_startAt k s_impl_startAt (a0, a1, a2, ()) J 0 n (S0 a0 a1 a2 x.1 x.2) = L0 call k a0 a1 a2 n x.1 x.2 := by
  refine loop_eq (s := s_impl_startAt) (fun x => S0 a0 a1 a2 x.1 x.2) (fun n x => L0 call k a0 a1 a2 n x.1 x.2) (fun r x => step0 call k a0 a1 a2 (fun v0_2 v0_3 => r (v0_2, v0_3)) x.1 x.2) (fun _ => rfl) (fun _ _ => rfl) fun J0 x => ?_
  kernel_rfl
theorem F_eq (call : Cl) (k : Nat) (a0 : Y7_1) (a1 : (List Int)) (a2 : (List Int)) : bodyK E call n_impl_startAt k s_impl_startAt (a0, a1, a2, ()) = F call k a0 a1 a2 := by
  exact Eq.trans (b := Fm call k (fun a0 a1 a2 v0_2_ v0_3_ => siteI E call n_impl_startAt k s_impl_startAt (a0, a1, a2, ()) (fun _ _ => none) 0 k (S0 a0 a1 a2 v0_2_ v0_3_)) a0 a1 a2) (by kernel_rfl) (congrArg (fun l => Fm call k l a0 a1 a2) (funext fun a0 => funext fun a1 => funext fun a2 => funext fun v0_2_ => funext fun v0_3_ => L0_eq call k (fun _ _ => none) a0 a1 a2 k (v0_2_, v0_3_)))
end impl_startAt
/-! #### impl_StartOf -/
namespace impl_StartOf
abbrev R := ((((List Int) × ((List (List Int)) × Unit)) × (Bool × Unit)) × Unit)
def Fm (call : Cl) (k : Nat) (a0 : Y7_1) (a1 : (List Int)) (a2 : (List Int)) : Option R := (call 27 s_impl_ProgOk (a0, ())).bind fun (y0 : Y7_9 × Unit) => bif !y0.1.1 then some ((([], [], ()), false, ()), ()) else (call 53 s_impl_within (a1, a0.2.1, ())).bind fun (y1 : Y7_9 × Unit) => bif !y1.1.1 then some ((([], [], ()), false, ()), ()) else (call 53 s_impl_within (a2, a0.2.2.1, ())).bind fun (y2 : Y7_9 × Unit) => bif !y2.1.1 then some ((([], [], ()), false, ()), ()) else (call 54 s_impl_startAt (a0, a1, a2, ())).bind fun (y3 : (((List Int × List (List Int) × Unit) × Unit) × Unit)) => some ((y3.1.1, true, ()), ())
def F (call : Cl) (k : Nat) (a0 : Y7_1) (a1 : (List Int)) (a2 : (List Int)) : Option R := Fm call k a0 a1 a2
theorem F_eq (call : Cl) (k : Nat) (a0 : Y7_1) (a1 : (List Int)) (a2 : (List Int)) : bodyK E call n_impl_StartOf k s_impl_StartOf (a0, a1, a2, ()) = F call k a0 a1 a2 := by kernel_rfl
end impl_StartOf
/-! #### impl_EndOf -/
namespace impl_EndOf
abbrev R := ((Int × (Int × Unit)) × Unit)
def Fm (call : Cl) (k : Nat) (a0 : Y7_3) (a1 : Int) : Option R := bif decide ((↑a0.length : Int) > 40) then some (((-1), (-1), ()), ()) else bif decide (a1 < 0) then some (((-1), (-1), ()), ()) else bif decide (a1 ≥ (↑a0.length : Int)) then some (((-1), (-1), ()), ()) else bif decide (0 ≤ a1) then (lget a0 a1.toNat).bind fun (y0 : (Int × Int × List (Int × Int × Unit) × List (Int × Int × Unit) × Unit)) => bif y0.1 != 2 then bif y0.1 != 5 then bif y0.1 != 8 then some (((-1), (-1), ()), ()) else (call 101 s_impl_nester_one ((a0, a1, 0, 0, ()), ())).bind fun (y1 : Y7_2) => bif !y1.1.2.1 then some (((-1), (-1), ()), ()) else some ((y1.2.1.2.2.1, y1.2.1.2.2.2.1, ()), ()) else (call 101 s_impl_nester_one ((a0, a1, 0, 0, ()), ())).bind fun (y2 : Y7_2) => bif !y2.1.2.1 then some (((-1), (-1), ()), ()) else some ((y2.2.1.2.2.1, y2.2.1.2.2.2.1, ()), ()) else (call 101 s_impl_nester_one ((a0, a1, 0, 0, ()), ())).bind fun (y3 : Y7_2) => bif !y3.1.2.1 then some (((-1), (-1), ()), ()) else some ((y3.2.1.2.2.1, y3.2.1.2.2.2.1, ()), ()) else none
def F (call : Cl) (k : Nat) (a0 : Y7_3) (a1 : Int) : Option R := Fm call k a0 a1
theorem F_eq (call : Cl) (k : Nat) (a0 : Y7_3) (a1 : Int) : bodyK E call n_impl_EndOf k s_impl_EndOf (a0, a1, ()) = F call k a0 a1 := by kernel_rfl
end impl_EndOf
/-! #### impl_catchOf -/
namespace impl_catchOf
abbrev R := ((Int × Unit) × Unit)
def Fm (call : Cl) (k : Nat) (a0 : Y7_1) (a1 : Y7_4) : Option R := (call 114 s_impl_EndOf (a0.2.2.2.2.2.1, a1.1, ())).bind fun (y0 : ((Int × Int × Unit) × Unit)) => bif decide (0 ≤ y0.1.1) then (lget a0.2.2.2.2.2.1 (Int.toNat y0.1.1)).bind fun (y1 : (Int × Int × List (Int × Int × Unit) × List (Int × Int × Unit) × Unit)) => some ((y1.2.1, ()), ()) else none
def F (call : Cl) (k : Nat) (a0 : Y7_1) (a1 : Y7_4) : Option R := Fm call k a0 a1
theorem F_eq (call : Cl) (k : Nat) (a0 : Y7_1) (a1 : Y7_4) : bodyK E call n_impl_catchOf k s_impl_catchOf (a0, a1, ()) = F call k a0 a1 := by kernel_rfl
end impl_catchOf
end Go.Proofs.Ytafgkoelefpacaa.Pf
