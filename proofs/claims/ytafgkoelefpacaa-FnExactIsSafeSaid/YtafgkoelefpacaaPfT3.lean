/- Printed texts: what the reading of these functions is. No condition. -/
import Derived.Test.YtafgkoelefpacaaPvEnv
import Derived.KernelRfl
set_option linter.unusedVariables false
set_option maxHeartbeats 2000000
namespace Go.Proofs.Ytafgkoelefpacaa.Pf
open Go Go.Pv
abbrev Y3_0 : Type := ((Int × ((List (Int × (Int × Unit))) × ((List (Int × (Int × Unit))) × (Int × ((List Int) × ((List (Int × (Int × ((List (Int × (Int × Unit))) × ((List (Int × (Int × Unit))) × Unit))))) × Unit)))))))
abbrev Y3_1 : Type := (Int × ((List (Int × (Int × Unit))) × ((List (Int × (Int × Unit))) × (Int × ((List Int) × ((List (Int × (Int × ((List (Int × (Int × Unit))) × ((List (Int × (Int × Unit))) × Unit))))) × Unit))))))
abbrev Y3_2 : Type := (List (Int × (Int × ((List (Int × (Int × Unit))) × ((List (Int × (Int × Unit))) × Unit)))))
abbrev Y3_3 : Type := (Int × (Int × ((List (Int × (Int × Unit))) × ((List (Int × (Int × Unit))) × Unit))))
abbrev Y3_4 : Type := (Int × Int × List (Int × Int × Unit) × List (Int × Int × Unit) × Unit)
abbrev Y3_5 : Type := ((Int) × ((List Int)) × ((List Int)) × (Int) × (Int))
abbrev Y3_6 : Type := ((List Int) × ((List Int) × (Int × (Int × Unit))))
abbrev Y3_7 : Type := ((List (List (Int × (Int × Unit)))))
abbrev Y3_8 : Type := ((List (Int × (Int × Unit))))
abbrev Y3_9 : Type := (List (Int × (Int × Unit)))
abbrev Y3_10 : Type := ((Int) × (Int))
abbrev Y3_11 : Type := (Bool × Unit)
abbrev Y3_12 : Type := (Int × Unit)
/-! #### spec_l2First -/
namespace spec_l2First
abbrev R := ((Int × Unit) × Unit)
def S0 (a0 : Y3_9) (v0_1 : Int) (v0_2 : Int) : St := ⟨mkS 24 [(0, .v tTl (a0)), (5, .v tI v0_1), (6, .v tI v0_2)], []⟩
def step0 (call : Cl) (k : Nat) (a0 : Y3_9)   (r0 : (Int) → (Int) → Option R) (v0_1 : Int) (v0_2 : Int) : Option R := bif decide (v0_2 ≥ 0) then bif decide (0 ≤ v0_2) then (lget a0 v0_2.toNat).bind fun (y0 : Int × Int × Unit) => (call 98 s_spec_TakesOf (y0.1, ())).bind fun (y1 : Y3_12 × Unit) => bif IntKind.i64.wrap (IntKind.i64.wrap (v0_1 - 1) + y1.1.1) == 0 then some ((v0_2, ()), ()) else r0 (IntKind.i64.wrap (IntKind.i64.wrap (v0_1 - 1) + y1.1.1)) (IntKind.i64.wrap (v0_2 - 1)) else none else some ((0, ()), ())
def L0 (call : Cl) (k : Nat) (a0 : Y3_9)  : Nat → (Int) → (Int) → Option R | 0, _, _ => none | n + 1, v0_1, v0_2 => step0 call k a0   (L0 call k a0  n) v0_1 v0_2
def Fm (call : Cl) (k : Nat) (l0 : Y3_8 → (Int) → (Int) → Option R) (a0 : Y3_9) (a1 : Int) : Option R := l0 a0 1 a1
def F (call : Cl) (k : Nat) (a0 : Y3_9) (a1 : Int) : Option R := Fm call k (fun a0_ v0_1_ v0_2_ => L0 call k a0_ k v0_1_ v0_2_) a0 a1
theorem L0_eq (call : Cl) (k : Nat) (J : Nat → St → Option R) (a0 : Y3_9) (a1 : Int) : ∀ (n : Nat) (x : Y3_10), siteI E call n_spec_l2First k s_spec_l2First (a0, a1, ()) J 0 n (S0 a0 x.1 x.2) = L0 call k a0  n x.1 x.2 := by
  refine loop_eq (E := E) (call := call) (f := n_spec_l2First) (k := k) (s := s_spec_l2First) (l := (a0, a1, ())) (J := J) (i := 0) (X := Y3_10) (fun x => S0 a0 x.1 x.2) (fun n x => L0 call k a0  n x.1 x.2) (fun r x => step0 call k a0   (fun v0_1 v0_2 => r (v0_1, v0_2)) x.1 x.2) ?_ ?_ ?_
  · intro x; rfl
  · intro n x; rfl
  intro J0 x
  kernel_rfl
theorem F_eq (call : Cl) (k : Nat) (a0 : Y3_9) (a1 : Int) : bodyK E call n_spec_l2First k s_spec_l2First (a0, a1, ()) = F call k a0 a1 := by
  exact Eq.trans (b := Fm call k (fun a0 v0_1_ v0_2_ => siteI E call n_spec_l2First k s_spec_l2First (a0, a1, ()) (fun _ _ => none) 0 k (S0 a0 v0_1_ v0_2_)) a0 a1) (by kernel_rfl) (congrArg (fun l => Fm call k l a0 a1) (funext fun a0 => funext fun v0_1_ => funext fun v0_2_ => L0_eq call k (fun _ _ => none) a0 a1 k (v0_1_, v0_2_)))
end spec_l2First
/-! #### spec_l2Copy -/
namespace spec_l2Copy
abbrev R := (((List (Int × (Int × Unit))) × Unit) × Unit)
def Fm (call : Cl) (k : Nat)  (a0 : Y3_9) : Option R := bif decide ((0 + a0.length) * ti134.bytes ≤ 140737488355328) then some (([] ++ a0, ()), ()) else none
def F (call : Cl) (k : Nat) (a0 : Y3_9) : Option R := Fm call k  a0
theorem F_eq (call : Cl) (k : Nat) (a0 : Y3_9) : bodyK E call n_spec_l2Copy k s_spec_l2Copy (a0, ()) = F call k a0 := by
  kernel_rfl
end spec_l2Copy
/-! #### spec_PartsOf -/
namespace spec_PartsOf
abbrev R := (((List (List (Int × (Int × Unit)))) × Unit) × Unit)
def S0 (a0 : Y3_9) (v0_1 : Int) (v0_2 : Int) (v0_3 : (List Y3_9)) : St := ⟨mkS 42 [(0, .v tTl (a0)), (3, .ref [500003]), (4, .v tI v0_1), (5, .v tI v0_2)], [([500003], .list 83 (.own 134 tTm) v0_3)]⟩
def step0 (call : Cl) (k : Nat) (a0 : Y3_9)   (r0 : (Int) → (Int) → Y3_7 → Option R) (v0_1 : Int) (v0_2 : Int) (v0_3 : (List Y3_9)) : Option R := bif decide (v0_2 > 0) then (call 118 s_spec_l2First (a0, v0_1, ())).bind fun (y3 : Y3_12 × Unit) => bif decide (0 ≤ y3.1.1) then bif decide (0 ≤ IntKind.i64.wrap (v0_1 + 1)) then bif decide (Int.toNat y3.1.1 ≤ (IntKind.i64.wrap (v0_1 + 1)).toNat) && decide ((IntKind.i64.wrap (v0_1 + 1)).toNat ≤ a0.length) then (call 124 s_spec_l2Copy (List.take ((IntKind.i64.wrap (v0_1 + 1)).toNat - Int.toNat y3.1.1) (List.drop (Int.toNat y3.1.1) a0), ())).bind fun (y4 : ((List (Int × Int × Unit) × Unit) × Unit)) => bif decide (([y4.1.1].length + v0_3.length) * ti83.bytes ≤ 140737488355328) then r0 (IntKind.i64.wrap (y3.1.1 - 1)) (IntKind.i64.wrap (v0_2 - 1)) ([y4.1.1] ++ v0_3) else none else none else none else none else some ((v0_3, ()), ())
def L0 (call : Cl) (k : Nat) (a0 : Y3_9)  : Nat → (Int) → (Int) → Y3_7 → Option R | 0, _, _, _ => none | n + 1, v0_1, v0_2, v0_3 => step0 call k a0   (L0 call k a0  n) v0_1 v0_2 v0_3
def Fm (call : Cl) (k : Nat) (l0 : Y3_8 → (Int) → (Int) → Y3_7 → Option R) (a0 : Y3_9) : Option R := (call 123 s_spec_ExpOk (a0, ())).bind fun (y0 : Y3_11 × Unit) => bif !y0.1.1 then some (([], ()), ()) else bif decide (0 ≤ IntKind.i64.wrap ((↑a0.length : Int) - 1)) then (lget a0 (IntKind.i64.wrap ((↑a0.length : Int) - 1)).toNat).bind fun (y1 : Int × Int × Unit) => (call 98 s_spec_TakesOf (y1.1, ())).bind fun (y2 : Y3_12 × Unit) => l0 a0 (IntKind.i64.wrap ((↑a0.length : Int) - 2)) y2.1.1 [] else none
def F (call : Cl) (k : Nat) (a0 : Y3_9) : Option R := Fm call k (fun a0_ v0_1_ v0_2_ v0_3_ => L0 call k a0_ k v0_1_ v0_2_ v0_3_) a0
theorem L0_eq (call : Cl) (k : Nat) (J : Nat → St → Option R) (a0 : Y3_9) : ∀ (n : Nat) (x : ((Int) × (Int) × Y3_7)), siteI E call n_spec_PartsOf k s_spec_PartsOf (a0, ()) J 0 n (S0 a0 x.1 x.2.1 x.2.2) = L0 call k a0  n x.1 x.2.1 x.2.2 := by
  refine loop_eq (E := E) (call := call) (f := n_spec_PartsOf) (k := k) (s := s_spec_PartsOf) (l := (a0, ())) (J := J) (i := 0) (X := ((Int) × (Int) × Y3_7)) (fun x => S0 a0 x.1 x.2.1 x.2.2) (fun n x => L0 call k a0  n x.1 x.2.1 x.2.2) (fun r x => step0 call k a0   (fun v0_1 v0_2 v0_3 => r (v0_1, v0_2, v0_3)) x.1 x.2.1 x.2.2) ?_ ?_ ?_
  · intro x; rfl
  · intro n x; rfl
  intro J0 x
  kernel_rfl
theorem F_eq (call : Cl) (k : Nat) (a0 : Y3_9) : bodyK E call n_spec_PartsOf k s_spec_PartsOf (a0, ()) = F call k a0 := by
  exact Eq.trans (b := Fm call k (fun a0 v0_1_ v0_2_ v0_3_ => siteI E call n_spec_PartsOf k s_spec_PartsOf (a0, ()) (fun _ _ => none) 0 k (S0 a0 v0_1_ v0_2_ v0_3_)) a0) (by kernel_rfl) (congrArg (fun l => Fm call k l a0) (funext fun a0 => funext fun v0_1_ => funext fun v0_2_ => funext fun v0_3_ => L0_eq call k (fun _ _ => none) a0 k (v0_1_, v0_2_, v0_3_)))
end spec_PartsOf
/-! #### spec_l9Known -/
namespace spec_l9Known
abbrev R := ((Bool × Unit) × Unit)
def Fm (call : Cl) (k : Nat)  (a0 : Y3_9) (a1 : Int) (a2 : Bool) : Option R := bif (↑a0.length : Int) == 1 then (lget a0 (Int.toNat 0)).bind fun (y0 : Int × Int × Unit) => bif y0.1 == 0 then (lget a0 (Int.toNat 0)).bind fun (y1 : Int × Int × Unit) => bif decide (y1.2.1 < a1) then bif a2 then (lget a0 (Int.toNat 0)).bind fun (y2 : Int × Int × Unit) => some ((!y2.2.1 == 0, ()), ()) else some ((!false, ()), ()) else some ((false, ()), ()) else some ((false, ()), ()) else some ((false, ()), ())
def F (call : Cl) (k : Nat) (a0 : Y3_9) (a1 : Int) (a2 : Bool) : Option R := Fm call k  a0 a1 a2
theorem F_eq (call : Cl) (k : Nat) (a0 : Y3_9) (a1 : Int) (a2 : Bool) : bodyK E call n_spec_l9Known k s_spec_l9Known (a0, a1, a2, ()) = F call k a0 a1 a2 := by
  kernel_rfl
end spec_l9Known
/-! #### spec_l9May -/
namespace spec_l9May
abbrev R := ((Bool × Unit) × Unit)
def S0 (a0 : Y3_1) (a1 : Y3_9) (v0_1 : Int) : St := ⟨mkS 52 [(1, .v tTl (a1)), (2, .p [500002] [] 0), (5, .v tI v0_1)], [([500002], .box (.v tPg ((a0.1), ((a0.2.1), ((a0.2.2.1), ((a0.2.2.2.1), ((a0.2.2.2.2.1), ((a0.2.2.2.2.2.1), ()))))))))]⟩
def step0 (call : Cl) (k : Nat) (a0 : Y3_1) (a1 : Y3_9)   (r0 : (Int) → Option R) (v0_1 : Int) : Option R := bif decide (v0_1 < (↑a1.length : Int)) then (call 118 s_spec_l2First (a1, v0_1, ())).bind fun (y0 : Y3_12 × Unit) => bif decide (0 ≤ y0.1.1) then bif decide (0 ≤ IntKind.i64.wrap (v0_1 + 1)) then bif decide (Int.toNat y0.1.1 ≤ (IntKind.i64.wrap (v0_1 + 1)).toNat) && decide ((IntKind.i64.wrap (v0_1 + 1)).toNat ≤ a1.length) then (call 117 s_spec_PartsOf (List.take ((IntKind.i64.wrap (v0_1 + 1)).toNat - Int.toNat y0.1.1) (List.drop (Int.toNat y0.1.1) a1), ())).bind fun (y1 : ((List (List (Int × Int × Unit)) × Unit) × Unit)) => bif decide (0 ≤ v0_1) then (lget a1 v0_1.toNat).bind fun (y2 : Int × Int × Unit) => bif y2.1 == 2 then bif decide (0 ≤ 0) && decide (Int.toNat 0 < List.length y1.1.1) then bif decide (0 ≤ v0_1) then (lget a1 v0_1.toNat).bind fun (y3 : Int × Int × Unit) => bif decide (0 ≤ y3.2.1) then (lget a0.2.2.2.2.1 (Int.toNat y3.2.1)).bind fun (y4 : Int) => (lget y1.1.1 (Int.toNat 0)).bind fun (y5 : List (Int × Int × Unit)) => (call 107 s_spec_l9Known (y5, y4, false, ())).bind fun (y6 : Y3_11 × Unit) => bif !y6.1.1 then some ((true, ()), ()) else r0 (IntKind.i64.wrap (v0_1 + 1)) else none else none else none else bif y2.1 == 8 then bif y2.1 == 8 then bif decide (0 ≤ 1) && decide (Int.toNat 1 < List.length y1.1.1) then (call 83 s_spec_l3Size ((a0.1, a0.2.1, a0.2.2.1, a0.2.2.2.1, a0.2.2.2.2.1, a0.2.2.2.2.2.1, ()), ())).bind fun (y7 : Y3_12 × Unit) => (lget y1.1.1 (Int.toNat 1)).bind fun (y8 : List (Int × Int × Unit)) => (call 107 s_spec_l9Known (y8, y7.1.1, true, ())).bind fun (y9 : Y3_11 × Unit) => bif !y9.1.1 then some ((true, ()), ()) else r0 (IntKind.i64.wrap (v0_1 + 1)) else none else r0 (IntKind.i64.wrap (v0_1 + 1)) else bif y2.1 == 9 then bif decide (0 ≤ 1) && decide (Int.toNat 1 < List.length y1.1.1) then (call 83 s_spec_l3Size ((a0.1, a0.2.1, a0.2.2.1, a0.2.2.2.1, a0.2.2.2.2.1, a0.2.2.2.2.2.1, ()), ())).bind fun (y10 : Y3_12 × Unit) => (lget y1.1.1 (Int.toNat 1)).bind fun (y11 : List (Int × Int × Unit)) => (call 107 s_spec_l9Known (y11, y10.1.1, true, ())).bind fun (y12 : Y3_11 × Unit) => bif !y12.1.1 then some ((true, ()), ()) else r0 (IntKind.i64.wrap (v0_1 + 1)) else none else r0 (IntKind.i64.wrap (v0_1 + 1)) else none else none else none else none else some ((false, ()), ())
def L0 (call : Cl) (k : Nat) (a0 : Y3_1) (a1 : Y3_9)  : Nat → (Int) → Option R | 0, _ => none | n + 1, v0_1 => step0 call k a0 a1   (L0 call k a0 a1  n) v0_1
def Fm (call : Cl) (k : Nat) (l0 : Y3_0 → Y3_8 → (Int) → Option R) (a0 : Y3_1) (a1 : Y3_9) : Option R := l0 a0 a1 0
def F (call : Cl) (k : Nat) (a0 : Y3_1) (a1 : Y3_9) : Option R := Fm call k (fun a0_ a1_ v0_1_ => L0 call k a0_ a1_ k v0_1_) a0 a1
theorem L0_eq (call : Cl) (k : Nat) (J : Nat → St → Option R) (a0 : Y3_1) (a1 : Y3_9) : ∀ (n : Nat) (x : (Int)), siteI E call n_spec_l9May k s_spec_l9May (a0, a1, ()) J 0 n (S0 a0 a1 x) = L0 call k a0 a1  n x := by
  refine loop_eq (E := E) (call := call) (f := n_spec_l9May) (k := k) (s := s_spec_l9May) (l := (a0, a1, ())) (J := J) (i := 0) (X := (Int)) (fun x => S0 a0 a1 x) (fun n x => L0 call k a0 a1  n x) (fun r x => step0 call k a0 a1   (fun v0_1 => r v0_1) x) ?_ ?_ ?_
  · intro x; rfl
  · intro n x; rfl
  intro J0 x
  kernel_rfl
theorem F_eq (call : Cl) (k : Nat) (a0 : Y3_1) (a1 : Y3_9) : bodyK E call n_spec_l9May k s_spec_l9May (a0, a1, ()) = F call k a0 a1 := by
  exact Eq.trans (b := Fm call k (fun a0 a1 v0_1_ => siteI E call n_spec_l9May k s_spec_l9May (a0, a1, ()) (fun _ _ => none) 0 k (S0 a0 a1 v0_1_)) a0 a1) (by kernel_rfl) (congrArg (fun l => Fm call k l a0 a1) (funext fun a0 => funext fun a1 => funext fun v0_1_ => L0_eq call k (fun _ _ => none) a0 a1 k v0_1_))
end spec_l9May
/-! #### spec_l9Stmt -/
namespace spec_l9Stmt
abbrev R := ((Bool × Unit) × Unit)
def Fm (call : Cl) (k : Nat)  (a0 : Y3_1) (a1 : Y3_3) : Option R := (call 106 s_spec_l9May (a0, a1.2.2.1, ())).bind fun (y0 : Y3_11 × Unit) => bif y0.1.1 then some ((true, ()), ()) else (call 106 s_spec_l9May (a0, a1.2.2.2.1, ())).bind fun (y1 : Y3_11 × Unit) => bif y1.1.1 then some ((true, ()), ()) else bif a1.1 == 1 then bif decide (0 ≤ a1.2.1) then (lget a0.2.2.2.2.1 (Int.toNat a1.2.1)).bind fun (y2 : Int) => (call 107 s_spec_l9Known (a1.2.2.1, y2, false, ())).bind fun (y3 : Y3_11 × Unit) => some ((!y3.1.1, ()), ()) else none else some ((false, ()), ())
def F (call : Cl) (k : Nat) (a0 : Y3_1) (a1 : Y3_3) : Option R := Fm call k  a0 a1
theorem F_eq (call : Cl) (k : Nat) (a0 : Y3_1) (a1 : Y3_3) : bodyK E call n_spec_l9Stmt k s_spec_l9Stmt (a0, a1, ()) = F call k a0 a1 := by
  kernel_rfl
end spec_l9Stmt
/-! #### spec_l9Unite -/
namespace spec_l9Unite
abbrev R := ((Int × Unit) × Unit)
def S0 (a0 : Int) (a1 : Int) (v0_2 : Int) (v0_3 : Int) : St := ⟨mkS 27 [(0, .v tI (a0)), (1, .v tI (a1)), (5, .v tI v0_2), (6, .v tI v0_3)], []⟩
def step0 (call : Cl) (k : Nat) (a0 : Int) (a1 : Int)   (r0 : (Int) → (Int) → Option R) (v0_2 : Int) (v0_3 : Int) : Option R := bif decide (v0_3 ≤ 8) then bif decide (v0_3 = 0) then none else bif (IntKind.i64.wrap (a0.tdiv v0_3)).tmod 2 == 1 then r0 (IntKind.i64.wrap (v0_2 + v0_3)) (IntKind.i64.wrap (v0_3 * 2)) else bif decide (v0_3 = 0) then none else bif (IntKind.i64.wrap (a1.tdiv v0_3)).tmod 2 == 1 then r0 (IntKind.i64.wrap (v0_2 + v0_3)) (IntKind.i64.wrap (v0_3 * 2)) else r0 v0_2 (IntKind.i64.wrap (v0_3 * 2)) else some ((v0_2, ()), ())
def L0 (call : Cl) (k : Nat) (a0 : Int) (a1 : Int)  : Nat → (Int) → (Int) → Option R | 0, _, _ => none | n + 1, v0_2, v0_3 => step0 call k a0 a1   (L0 call k a0 a1  n) v0_2 v0_3
def Fm (call : Cl) (k : Nat) (l0 : (Int) → (Int) → (Int) → (Int) → Option R) (a0 : Int) (a1 : Int) : Option R := l0 a0 a1 0 1
def F (call : Cl) (k : Nat) (a0 : Int) (a1 : Int) : Option R := Fm call k (fun a0_ a1_ v0_2_ v0_3_ => L0 call k a0_ a1_ k v0_2_ v0_3_) a0 a1
theorem L0_eq (call : Cl) (k : Nat) (J : Nat → St → Option R) (a0 : Int) (a1 : Int) : ∀ (n : Nat) (x : Y3_10), siteI E call n_spec_l9Unite k s_spec_l9Unite (a0, a1, ()) J 0 n (S0 a0 a1 x.1 x.2) = L0 call k a0 a1  n x.1 x.2 := by
  refine loop_eq (E := E) (call := call) (f := n_spec_l9Unite) (k := k) (s := s_spec_l9Unite) (l := (a0, a1, ())) (J := J) (i := 0) (X := Y3_10) (fun x => S0 a0 a1 x.1 x.2) (fun n x => L0 call k a0 a1  n x.1 x.2) (fun r x => step0 call k a0 a1   (fun v0_2 v0_3 => r (v0_2, v0_3)) x.1 x.2) ?_ ?_ ?_
  · intro x; rfl
  · intro n x; rfl
  intro J0 x
  kernel_rfl
theorem F_eq (call : Cl) (k : Nat) (a0 : Int) (a1 : Int) : bodyK E call n_spec_l9Unite k s_spec_l9Unite (a0, a1, ()) = F call k a0 a1 := by
  exact Eq.trans (b := Fm call k (fun a0 a1 v0_2_ v0_3_ => siteI E call n_spec_l9Unite k s_spec_l9Unite (a0, a1, ()) (fun _ _ => none) 0 k (S0 a0 a1 v0_2_ v0_3_)) a0 a1) (by kernel_rfl) (congrArg (fun l => Fm call k l a0 a1) (funext fun a0 => funext fun a1 => funext fun v0_2_ => funext fun v0_3_ => L0_eq call k (fun _ _ => none) a0 a1 k (v0_2_, v0_3_)))
end spec_l9Unite
/-! #### spec_l9Label -/
namespace spec_l9Label
abbrev R := ((Int × Unit) × Unit)
def S0 (a0 : Y3_6) (a1 : Y3_9) (v0_1 : Int) (v0_2 : Int) : St := ⟨mkS 45 [(1, .v tTl (a1)), (2, .p [500002] [] 0), (5, .v tI v0_1), (6, .v tI v0_2)], [([500002], .box (.v (.pair (.slc tI) (.pair (.slc tI) tTm)) ((a0.1), ((a0.2.1), ((a0.2.2.1), ((a0.2.2.2.1), ()))))))]⟩
def step0 (call : Cl) (k : Nat) (a0 : Y3_6) (a1 : Y3_9)   (r0 : (Int) → (Int) → Option R) (v0_1 : Int) (v0_2 : Int) : Option R := bif decide (v0_2 < (↑a1.length : Int)) then bif decide (0 ≤ v0_2) then (lget a1 v0_2.toNat).bind fun (y0 : Int × Int × Unit) => bif y0.1 == 1 then bif decide (0 ≤ v0_2) then (lget a1 v0_2.toNat).bind fun (y1 : Int × Int × Unit) => bif decide (0 ≤ y1.2.1) then (lget a0.1 (Int.toNat y1.2.1)).bind fun (y2 : Int) => (call 86 s_spec_l9Unite (v0_1, y2, ())).bind fun (y3 : Y3_12 × Unit) => r0 y3.1.1 (IntKind.i64.wrap (v0_2 + 1)) else none else none else bif y0.1 == 2 then bif decide (0 ≤ v0_2) then (lget a1 v0_2.toNat).bind fun (y4 : Int × Int × Unit) => bif decide (0 ≤ y4.2.1) then (lget a0.2.1 (Int.toNat y4.2.1)).bind fun (y5 : Int) => (call 86 s_spec_l9Unite (v0_1, y5, ())).bind fun (y6 : Y3_12 × Unit) => r0 y6.1.1 (IntKind.i64.wrap (v0_2 + 1)) else none else none else r0 v0_1 (IntKind.i64.wrap (v0_2 + 1)) else none else some ((v0_1, ()), ())
def L0 (call : Cl) (k : Nat) (a0 : Y3_6) (a1 : Y3_9)  : Nat → (Int) → (Int) → Option R | 0, _, _ => none | n + 1, v0_1, v0_2 => step0 call k a0 a1   (L0 call k a0 a1  n) v0_1 v0_2
def Fm (call : Cl) (k : Nat) (l0 : (Y3_6) → Y3_8 → (Int) → (Int) → Option R) (a0 : Y3_6) (a1 : Y3_9) : Option R := l0 a0 a1 0 0
def F (call : Cl) (k : Nat) (a0 : Y3_6) (a1 : Y3_9) : Option R := Fm call k (fun a0_ a1_ v0_1_ v0_2_ => L0 call k a0_ a1_ k v0_1_ v0_2_) a0 a1
theorem L0_eq (call : Cl) (k : Nat) (J : Nat → St → Option R) (a0 : Y3_6) (a1 : Y3_9) : ∀ (n : Nat) (x : Y3_10), siteI E call n_spec_l9Label k s_spec_l9Label (a0, a1, ()) J 0 n (S0 a0 a1 x.1 x.2) = L0 call k a0 a1  n x.1 x.2 := by
  refine loop_eq (E := E) (call := call) (f := n_spec_l9Label) (k := k) (s := s_spec_l9Label) (l := (a0, a1, ())) (J := J) (i := 0) (X := Y3_10) (fun x => S0 a0 a1 x.1 x.2) (fun n x => L0 call k a0 a1  n x.1 x.2) (fun r x => step0 call k a0 a1   (fun v0_1 v0_2 => r (v0_1, v0_2)) x.1 x.2) ?_ ?_ ?_
  · intro x; rfl
  · intro n x; rfl
  intro J0 x
  kernel_rfl
theorem F_eq (call : Cl) (k : Nat) (a0 : Y3_6) (a1 : Y3_9) : bodyK E call n_spec_l9Label k s_spec_l9Label (a0, a1, ()) = F call k a0 a1 := by
  exact Eq.trans (b := Fm call k (fun a0 a1 v0_1_ v0_2_ => siteI E call n_spec_l9Label k s_spec_l9Label (a0, a1, ()) (fun _ _ => none) 0 k (S0 a0 a1 v0_1_ v0_2_)) a0 a1) (by kernel_rfl) (congrArg (fun l => Fm call k l a0 a1) (funext fun a0 => funext fun a1 => funext fun v0_1_ => funext fun v0_2_ => L0_eq call k (fun _ _ => none) a0 a1 k (v0_1_, v0_2_)))
end spec_l9Label
/-! #### spec_l9Around -/
namespace spec_l9Around
abbrev R := ((Int × Unit) × Unit)
def S0 (a0 : Y3_2) (a1 : Y3_6) (a2 : Int) (v0_2 : Int) (v0_3 : Int) : St := ⟨mkS 41 [(0, .v (.slc tSm) (a0)), (2, .v tI (a2)), (4, .p [500004] [] 0), (7, .v tI v0_2), (8, .v tI v0_3)], [([500004], .box (.v (.pair (.slc tI) (.pair (.slc tI) tTm)) ((a1.1), ((a1.2.1), ((a1.2.2.1), ((a1.2.2.2.1), ()))))))]⟩
def step0 (call : Cl) (k : Nat) (a0 : Y3_2) (a1 : Y3_6) (a2 : Int)   (r0 : (Int) → (Int) → Option R) (v0_2 : Int) (v0_3 : Int) : Option R := bif decide (v0_3 < a2) then bif decide (0 ≤ v0_3) then (lget a0 v0_3.toNat).bind fun (y0 : Y3_4) => bif y0.1 == 2 then (call 77 s_spec_l3End (a0, v0_3, ())).bind fun (y1 : ((Int × Int × Unit) × Unit)) => bif decide (y1.1.2.1 > a2) then bif decide (0 ≤ v0_3) then (lget a0 v0_3.toNat).bind fun (y2 : Y3_4) => (call 88 s_spec_l9Label ((a1.1, a1.2.1, a1.2.2.1, a1.2.2.2.1, ()), y2.2.2.2.1, ())).bind fun (y3 : Y3_12 × Unit) => (call 86 s_spec_l9Unite (v0_2, y3.1.1, ())).bind fun (y4 : Y3_12 × Unit) => r0 y4.1.1 (IntKind.i64.wrap (v0_3 + 1)) else none else r0 v0_2 (IntKind.i64.wrap (v0_3 + 1)) else r0 v0_2 (IntKind.i64.wrap (v0_3 + 1)) else none else some ((v0_2, ()), ())
def L0 (call : Cl) (k : Nat) (a0 : Y3_2) (a1 : Y3_6) (a2 : Int)  : Nat → (Int) → (Int) → Option R | 0, _, _ => none | n + 1, v0_2, v0_3 => step0 call k a0 a1 a2   (L0 call k a0 a1 a2  n) v0_2 v0_3
def Fm (call : Cl) (k : Nat) (l0 : (Y3_2) → (Y3_6) → (Int) → (Int) → (Int) → Option R) (a0 : Y3_2) (a1 : Y3_6) (a2 : Int) : Option R := l0 a0 a1 a2 0 0
def F (call : Cl) (k : Nat) (a0 : Y3_2) (a1 : Y3_6) (a2 : Int) : Option R := Fm call k (fun a0_ a1_ a2_ v0_2_ v0_3_ => L0 call k a0_ a1_ a2_ k v0_2_ v0_3_) a0 a1 a2
theorem L0_eq (call : Cl) (k : Nat) (J : Nat → St → Option R) (a0 : Y3_2) (a1 : Y3_6) (a2 : Int) : ∀ (n : Nat) (x : Y3_10), siteI E call n_spec_l9Around k s_spec_l9Around (a0, a1, a2, ()) J 0 n (S0 a0 a1 a2 x.1 x.2) = L0 call k a0 a1 a2  n x.1 x.2 := by
  refine loop_eq (E := E) (call := call) (f := n_spec_l9Around) (k := k) (s := s_spec_l9Around) (l := (a0, a1, a2, ())) (J := J) (i := 0) (X := Y3_10) (fun x => S0 a0 a1 a2 x.1 x.2) (fun n x => L0 call k a0 a1 a2  n x.1 x.2) (fun r x => step0 call k a0 a1 a2   (fun v0_2 v0_3 => r (v0_2, v0_3)) x.1 x.2) ?_ ?_ ?_
  · intro x; rfl
  · intro n x; rfl
  intro J0 x
  kernel_rfl
theorem F_eq (call : Cl) (k : Nat) (a0 : Y3_2) (a1 : Y3_6) (a2 : Int) : bodyK E call n_spec_l9Around k s_spec_l9Around (a0, a1, a2, ()) = F call k a0 a1 a2 := by
  exact Eq.trans (b := Fm call k (fun a0 a1 a2 v0_2_ v0_3_ => siteI E call n_spec_l9Around k s_spec_l9Around (a0, a1, a2, ()) (fun _ _ => none) 0 k (S0 a0 a1 a2 v0_2_ v0_3_)) a0 a1 a2) (by kernel_rfl) (congrArg (fun l => Fm call k l a0 a1 a2) (funext fun a0 => funext fun a1 => funext fun a2 => funext fun v0_2_ => funext fun v0_3_ => L0_eq call k (fun _ _ => none) a0 a1 a2 k (v0_2_, v0_3_)))
end spec_l9Around
/-! #### spec_l9Round -/
namespace spec_l9Round
abbrev R := ((((List Int) × ((List Int) × (Int × (Int × Unit)))) × Unit) × Unit)
def S0 (a0 : Y3_1) (v0_0 : Int) (v0_5 : (List Int)) (v0_6 : (List Int)) (v0_7 : Int) (v0_8 : Int) : St := ⟨mkS 111 [(2, .p [500002] [] 0), (3, .p [500003] [] 0), (4, .p [500004] [] 0), (5, .v tI v0_0)], [([500004, 5, 1, 0], .list 2 tI ([])), ([500004, 5, 0], .list 2 tI ([])), ([500004], .box (.pr (.ref [500004, 5, 0]) (.pr (.ref [500004, 5, 1, 0]) (.v tTm ((0), ((0), ())))))), ([500003, 5, 1, 0], .list 2 tI v0_5), ([500003, 5, 0], .list 2 tI v0_6), ([500003], .box (.pr (.ref [500003, 5, 0]) (.pr (.ref [500003, 5, 1, 0]) (.v tTm (v0_7, (v0_8, ())))))), ([500002], .box (.v tPg ((a0.1), ((a0.2.1), ((a0.2.2.1), ((a0.2.2.2.1), ((a0.2.2.2.2.1), ((a0.2.2.2.2.2.1), ()))))))))]⟩
def step0 (call : Cl) (k : Nat) (a0 : Y3_1)   (r0 : (Int) → ((List Int)) → ((List Int)) → (Int) → (Int) → Option R) (v0_0 : Int) (v0_5 : (List Int)) (v0_6 : (List Int)) (v0_7 : Int) (v0_8 : Int) : Option R := bif decide (v0_0 < (↑a0.2.2.2.2.2.1.length : Int)) then bif decide (0 ≤ v0_0) then (lget a0.2.2.2.2.2.1 v0_0.toNat).bind fun (y0 : Y3_4) => (call 87 s_spec_l9Around (a0.2.2.2.2.2.1, (v0_6, v0_5, v0_7, v0_8, ()), v0_0, ())).bind fun (y1 : Y3_12 × Unit) => (call 86 s_spec_l9Unite (v0_7, y1.1.1, ())).bind fun (y2 : Y3_12 × Unit) => (call 88 s_spec_l9Label ((v0_6, v0_5, v0_7, v0_8, ()), y0.2.2.1, ())).bind fun (y3 : Y3_12 × Unit) => (call 88 s_spec_l9Label ((v0_6, v0_5, v0_7, v0_8, ()), y0.2.2.2.1, ())).bind fun (y4 : Y3_12 × Unit) => (call 86 s_spec_l9Unite (y3.1.1, y4.1.1, ())).bind fun (y5 : Y3_12 × Unit) => (call 86 s_spec_l9Unite (y2.1.1, y5.1.1, ())).bind fun (y6 : Y3_12 × Unit) => bif y0.1 == 0 then bif decide (0 ≤ y0.2.1) && decide (Int.toNat y0.2.1 < v0_6.length) then (lget v0_6 (Int.toNat y0.2.1)).bind fun (y7 : Int) => (call 86 s_spec_l9Unite (y7, y6.1.1, ())).bind fun (y8 : Y3_12 × Unit) => bif decide (0 ≤ y0.2.1) && decide (Int.toNat y0.2.1 < v0_6.length) then (lget v0_6 (Int.toNat y0.2.1)).bind fun (y9 : Int) => (call 89 s_spec_l9Stmt ((a0.1, a0.2.1, a0.2.2.1, a0.2.2.2.1, a0.2.2.2.2.1, a0.2.2.2.2.2.1, ()), y0, ())).bind fun (y10 : Y3_11 × Unit) => bif y10.1.1 then (call 86 s_spec_l9Unite (v0_7, y6.1.1, ())).bind fun (y11 : Y3_12 × Unit) => (call 86 s_spec_l9Unite (v0_8, y11.1.1, ())).bind fun (y12 : Y3_12 × Unit) => r0 (IntKind.i64.wrap (v0_0 + 1)) v0_5 (v0_6.set (Int.toNat y0.2.1) y8.1.1) y11.1.1 y12.1.1 else (call 86 s_spec_l9Unite (v0_8, v0_7, ())).bind fun (y13 : Y3_12 × Unit) => r0 (IntKind.i64.wrap (v0_0 + 1)) v0_5 (v0_6.set (Int.toNat y0.2.1) y8.1.1) v0_7 y13.1.1 else none else none else bif y0.1 == 1 then bif decide (0 ≤ y0.2.1) && decide (Int.toNat y0.2.1 < v0_5.length) then (lget v0_5 (Int.toNat y0.2.1)).bind fun (y14 : Int) => (call 86 s_spec_l9Unite (y14, y6.1.1, ())).bind fun (y15 : Y3_12 × Unit) => bif decide (0 ≤ y0.2.1) && decide (Int.toNat y0.2.1 < v0_5.length) then (lget v0_5 (Int.toNat y0.2.1)).bind fun (y16 : Int) => (call 89 s_spec_l9Stmt ((a0.1, a0.2.1, a0.2.2.1, a0.2.2.2.1, a0.2.2.2.2.1, a0.2.2.2.2.2.1, ()), y0, ())).bind fun (y17 : Y3_11 × Unit) => bif y17.1.1 then (call 86 s_spec_l9Unite (v0_7, y6.1.1, ())).bind fun (y18 : Y3_12 × Unit) => (call 86 s_spec_l9Unite (v0_8, y18.1.1, ())).bind fun (y19 : Y3_12 × Unit) => r0 (IntKind.i64.wrap (v0_0 + 1)) (v0_5.set (Int.toNat y0.2.1) y15.1.1) v0_6 y18.1.1 y19.1.1 else (call 86 s_spec_l9Unite (v0_8, v0_7, ())).bind fun (y20 : Y3_12 × Unit) => r0 (IntKind.i64.wrap (v0_0 + 1)) (v0_5.set (Int.toNat y0.2.1) y15.1.1) v0_6 v0_7 y20.1.1 else none else none else bif y0.1 == 6 then (call 86 s_spec_l9Unite (v0_8, y6.1.1, ())).bind fun (y21 : Y3_12 × Unit) => (call 89 s_spec_l9Stmt ((a0.1, a0.2.1, a0.2.2.1, a0.2.2.2.1, a0.2.2.2.2.1, a0.2.2.2.2.2.1, ()), y0, ())).bind fun (y22 : Y3_11 × Unit) => bif y22.1.1 then (call 86 s_spec_l9Unite (v0_7, y6.1.1, ())).bind fun (y23 : Y3_12 × Unit) => (call 86 s_spec_l9Unite (y21.1.1, y23.1.1, ())).bind fun (y24 : Y3_12 × Unit) => r0 (IntKind.i64.wrap (v0_0 + 1)) v0_5 v0_6 y23.1.1 y24.1.1 else (call 86 s_spec_l9Unite (y21.1.1, v0_7, ())).bind fun (y25 : Y3_12 × Unit) => r0 (IntKind.i64.wrap (v0_0 + 1)) v0_5 v0_6 v0_7 y25.1.1 else bif y0.1 == 7 then (call 86 s_spec_l9Unite (v0_7, y2.1.1, ())).bind fun (y26 : Y3_12 × Unit) => (call 89 s_spec_l9Stmt ((a0.1, a0.2.1, a0.2.2.1, a0.2.2.2.1, a0.2.2.2.2.1, a0.2.2.2.2.2.1, ()), y0, ())).bind fun (y27 : Y3_11 × Unit) => bif y27.1.1 then (call 86 s_spec_l9Unite (y26.1.1, y6.1.1, ())).bind fun (y28 : Y3_12 × Unit) => (call 86 s_spec_l9Unite (v0_8, y28.1.1, ())).bind fun (y29 : Y3_12 × Unit) => r0 (IntKind.i64.wrap (v0_0 + 1)) v0_5 v0_6 y28.1.1 y29.1.1 else (call 86 s_spec_l9Unite (v0_8, y26.1.1, ())).bind fun (y30 : Y3_12 × Unit) => r0 (IntKind.i64.wrap (v0_0 + 1)) v0_5 v0_6 y26.1.1 y30.1.1 else (call 89 s_spec_l9Stmt ((a0.1, a0.2.1, a0.2.2.1, a0.2.2.2.1, a0.2.2.2.2.1, a0.2.2.2.2.2.1, ()), y0, ())).bind fun (y31 : Y3_11 × Unit) => bif y31.1.1 then (call 86 s_spec_l9Unite (v0_7, y6.1.1, ())).bind fun (y32 : Y3_12 × Unit) => (call 86 s_spec_l9Unite (v0_8, y32.1.1, ())).bind fun (y33 : Y3_12 × Unit) => r0 (IntKind.i64.wrap (v0_0 + 1)) v0_5 v0_6 y32.1.1 y33.1.1 else (call 86 s_spec_l9Unite (v0_8, v0_7, ())).bind fun (y34 : Y3_12 × Unit) => r0 (IntKind.i64.wrap (v0_0 + 1)) v0_5 v0_6 v0_7 y34.1.1 else none else some (((v0_6, v0_5, v0_7, v0_8, ()), ()), ())
def L0 (call : Cl) (k : Nat) (a0 : Y3_1)  : Nat → (Int) → ((List Int)) → ((List Int)) → (Int) → (Int) → Option R | 0, _, _, _, _, _ => none | n + 1, v0_0, v0_5, v0_6, v0_7, v0_8 => step0 call k a0   (L0 call k a0  n) v0_0 v0_5 v0_6 v0_7 v0_8
def Fm (call : Cl) (k : Nat) (l0 : Y3_0 → (Int) → ((List Int)) → ((List Int)) → (Int) → (Int) → Option R) (a0 : Y3_1) (a1 : Y3_6) : Option R := bif decide ((0 + List.length a1.1) * ti2.bytes ≤ 140737488355328) then bif decide ((0 + List.length a1.2.1) * ti2.bytes ≤ 140737488355328) then l0 a0 0 ([] ++ a1.2.1) ([] ++ a1.1) a1.2.2.1 a1.2.2.2.1 else none else none
def F (call : Cl) (k : Nat) (a0 : Y3_1) (a1 : Y3_6) : Option R := Fm call k (fun a0_ v0_0_ v0_5_ v0_6_ v0_7_ v0_8_ => L0 call k a0_ k v0_0_ v0_5_ v0_6_ v0_7_ v0_8_) a0 a1
theorem L0_eq (call : Cl) (k : Nat) (J : Nat → St → Option R) (a0 : Y3_1) (a1 : Y3_6) : ∀ (n : Nat) (x : Y3_5), siteI E call n_spec_l9Round k s_spec_l9Round (a0, a1, ()) J 0 n (S0 a0 x.1 x.2.1 x.2.2.1 x.2.2.2.1 x.2.2.2.2) = L0 call k a0  n x.1 x.2.1 x.2.2.1 x.2.2.2.1 x.2.2.2.2 := by
  refine loop_eq (E := E) (call := call) (f := n_spec_l9Round) (k := k) (s := s_spec_l9Round) (l := (a0, a1, ())) (J := J) (i := 0) (X := Y3_5) (fun x => S0 a0 x.1 x.2.1 x.2.2.1 x.2.2.2.1 x.2.2.2.2) (fun n x => L0 call k a0  n x.1 x.2.1 x.2.2.1 x.2.2.2.1 x.2.2.2.2) (fun r x => step0 call k a0   (fun v0_0 v0_5 v0_6 v0_7 v0_8 => r (v0_0, v0_5, v0_6, v0_7, v0_8)) x.1 x.2.1 x.2.2.1 x.2.2.2.1 x.2.2.2.2) ?_ ?_ ?_
  · intro x; rfl
  · intro n x; rfl
  intro J0 x
  kernel_rfl
theorem F_eq (call : Cl) (k : Nat) (a0 : Y3_1) (a1 : Y3_6) : bodyK E call n_spec_l9Round k s_spec_l9Round (a0, a1, ()) = F call k a0 a1 := by
  exact Eq.trans (b := Fm call k (fun a0 v0_0_ v0_5_ v0_6_ v0_7_ v0_8_ => siteI E call n_spec_l9Round k s_spec_l9Round (a0, a1, ()) (fun _ _ => none) 0 k (S0 a0 v0_0_ v0_5_ v0_6_ v0_7_ v0_8_)) a0 a1) (by kernel_rfl) (congrArg (fun l => Fm call k l a0 a1) (funext fun a0 => funext fun v0_0_ => funext fun v0_5_ => funext fun v0_6_ => funext fun v0_7_ => funext fun v0_8_ => L0_eq call k (fun _ _ => none) a0 a1 k (v0_0_, v0_5_, v0_6_, v0_7_, v0_8_)))
end spec_l9Round
/-! #### spec_FlowOf -/
namespace spec_FlowOf
abbrev R := ((((List Int) × ((List Int) × (Int × (Int × Unit)))) × Unit) × Unit)
def S1 (a0 : Y3_1) (v1_0 : Int) (v1_1 : (List Int)) (v1_2 : (List Int)) (v1_3 : Int) (v1_4 : Int) : St := ⟨mkS 55 [(1, .p [500001] [] 0), (2, .p [500002] [] 0), (3, .p [500003] [] 0), (6, .v tI v1_0)], [([500003, 5, 1, 0], .list 2 tI v1_1), ([500003, 5, 0], .list 2 tI v1_2), ([500003], .box (.pr (.ref [500003, 5, 0]) (.pr (.ref [500003, 5, 1, 0]) (.v tTm (v1_3, (v1_4, ())))))), ([500002, 5, 1, 0], .list 2 tI ([])), ([500002, 5, 0], .list 2 tI ([])), ([500002], .box (.pr (.ref [500002, 5, 0]) (.pr (.ref [500002, 5, 1, 0]) (.v tTm ((0), ((0), ())))))), ([500001], .box (.v tPg ((a0.1), ((a0.2.1), ((a0.2.2.1), ((a0.2.2.2.1), ((a0.2.2.2.2.1), ((a0.2.2.2.2.2.1), ()))))))))]⟩
def S0 (a0 : Y3_1) (v0_0 : Int) (v0_1 : Int) (v0_3 : (List Int)) : St := ⟨mkS 55 [(1, .p [500001] [] 0), (2, .p [500002] [] 0), (3, .p [500003] [] 0), (4, .v tI v0_0), (5, .v tI v0_1)], [([500003, 5, 1, 0], .list 2 tI (List.replicate (↑(List.length a0.2.2.2.2.1) : Int).toNat (Int.ofNat (nat_lit 0)))), ([500003, 5, 0], .list 2 tI v0_3), ([500003], .box (.pr (.ref [500003, 5, 0]) (.pr (.ref [500003, 5, 1, 0]) (.v tTm ((0), ((0), ())))))), ([500002, 5, 1, 0], .list 2 tI ([])), ([500002, 5, 0], .list 2 tI ([])), ([500002], .box (.pr (.ref [500002, 5, 0]) (.pr (.ref [500002, 5, 1, 0]) (.v tTm ((0), ((0), ())))))), ([500001], .box (.v tPg ((a0.1), ((a0.2.1), ((a0.2.2.1), ((a0.2.2.2.1), ((a0.2.2.2.2.1), ((a0.2.2.2.2.2.1), ()))))))))]⟩
def step1 (call : Cl) (k : Nat) (a0 : Y3_1)   (r1 : (Int) → ((List Int)) → ((List Int)) → (Int) → (Int) → Option R) (v1_0 : Int) (v1_1 : (List Int)) (v1_2 : (List Int)) (v1_3 : Int) (v1_4 : Int) : Option R := bif decide (v1_0 < IntKind.i64.wrap (IntKind.i64.wrap (3 * IntKind.i64.wrap (IntKind.i64.wrap ((↑v1_2.length : Int) + (↑v1_1.length : Int)) + 2)) + 1)) then (call 66 s_spec_l9Round ((a0.1, a0.2.1, a0.2.2.1, a0.2.2.2.1, a0.2.2.2.2.1, a0.2.2.2.2.2.1, ()), (v1_2, v1_1, v1_3, v1_4, ()), ())).bind fun (y3 : (((List Int × List Int × Int × Int × Unit) × Unit) × Unit)) => r1 (IntKind.i64.wrap (v1_0 + 1)) y3.1.1.2.1 y3.1.1.1 y3.1.1.2.2.1 y3.1.1.2.2.2.1 else some (((v1_2, v1_1, v1_3, v1_4, ()), ()), ())
def L1 (call : Cl) (k : Nat) (a0 : Y3_1)  : Nat → (Int) → ((List Int)) → ((List Int)) → (Int) → (Int) → Option R | 0, _, _, _, _, _ => none | n + 1, v1_0, v1_1, v1_2, v1_3, v1_4 => step1 call k a0   (L1 call k a0  n) v1_0 v1_1 v1_2 v1_3 v1_4
def step0 (call : Cl) (k : Nat) (a0 : Y3_1)  (l1 : Y3_0 → (Int) → ((List Int)) → ((List Int)) → (Int) → (Int) → Option R) (r0 : (Int) → (Int) → ((List Int)) → Option R) (v0_0 : Int) (v0_1 : Int) (v0_3 : (List Int)) : Option R := bif decide (v0_1 < (↑a0.2.2.1.length : Int)) then bif decide (0 ≤ IntKind.i64.wrap ((↑a0.2.1.length : Int) + v0_1)) && decide ((IntKind.i64.wrap ((↑a0.2.1.length : Int) + v0_1)).toNat < v0_3.length) then (lget v0_3 (IntKind.i64.wrap ((↑a0.2.1.length : Int) + v0_1)).toNat).bind fun (y2 : Int) => r0 (IntKind.i64.wrap (v0_0 * 2)) (IntKind.i64.wrap (v0_1 + 1)) (v0_3.set (IntKind.i64.wrap ((↑a0.2.1.length : Int) + v0_1)).toNat v0_0) else none else l1 a0 0 (List.replicate (↑(List.length a0.2.2.2.2.1) : Int).toNat (Int.ofNat (nat_lit 0))) v0_3 0 0
def L0 (call : Cl) (k : Nat) (a0 : Y3_1)  : Nat → (Int) → (Int) → ((List Int)) → Option R | 0, _, _, _ => none | n + 1, v0_0, v0_1, v0_3 => step0 call k a0  (fun a0_ v1_0_ v1_1_ v1_2_ v1_3_ v1_4_ => L1 call k a0_ k v1_0_ v1_1_ v1_2_ v1_3_ v1_4_) (L0 call k a0  n) v0_0 v0_1 v0_3
def Fm (call : Cl) (k : Nat) (l0 : Y3_0 → (Int) → (Int) → ((List Int)) → Option R) (a0 : Y3_1) : Option R := (call 22 s_spec_ProgOk (a0, ())).bind fun (y0 : Y3_11 × Unit) => bif !y0.1.1 then some ((([], [], 0, 0, ()), ()), ()) else (call 65 s_spec_l3Vars (a0, ())).bind fun (y1 : Y3_12 × Unit) => bif decide (y1.1.1 = y1.1.1) && decide (0 ≤ y1.1.1) && decide (y1.1.1 * (↑ti2.bytes : Int) ≤ 281474976710656) then bif decide ((↑(List.length a0.2.2.2.2.1) : Int) = (↑(List.length a0.2.2.2.2.1) : Int)) && decide (0 ≤ (↑(List.length a0.2.2.2.2.1) : Int)) && decide ((↑(List.length a0.2.2.2.2.1) : Int) * (↑ti2.bytes : Int) ≤ 281474976710656) then l0 a0 1 0 (List.replicate (Int.toNat y1.1.1) (Int.ofNat (nat_lit 0))) else none else none
def F (call : Cl) (k : Nat) (a0 : Y3_1) : Option R := Fm call k (fun a0_ v0_0_ v0_1_ v0_3_ => L0 call k a0_ k v0_0_ v0_1_ v0_3_) a0
theorem L1_eq (call : Cl) (k : Nat) (J : Nat → St → Option R) (a0 : Y3_1) : ∀ (n : Nat) (x : Y3_5), siteI E call n_spec_FlowOf k s_spec_FlowOf (a0, ()) J 1 n (S1 a0 x.1 x.2.1 x.2.2.1 x.2.2.2.1 x.2.2.2.2) = L1 call k a0  n x.1 x.2.1 x.2.2.1 x.2.2.2.1 x.2.2.2.2 := by
  refine loop_eq (E := E) (call := call) (f := n_spec_FlowOf) (k := k) (s := s_spec_FlowOf) (l := (a0, ())) (J := J) (i := 1) (X := Y3_5) (fun x => S1 a0 x.1 x.2.1 x.2.2.1 x.2.2.2.1 x.2.2.2.2) (fun n x => L1 call k a0  n x.1 x.2.1 x.2.2.1 x.2.2.2.1 x.2.2.2.2) (fun r x => step1 call k a0   (fun v1_0 v1_1 v1_2 v1_3 v1_4 => r (v1_0, v1_1, v1_2, v1_3, v1_4)) x.1 x.2.1 x.2.2.1 x.2.2.2.1 x.2.2.2.2) ?_ ?_ ?_
  · intro x; rfl
  · intro n x; rfl
  intro J0 x
  kernel_rfl
theorem L0_eq (call : Cl) (k : Nat) (J : Nat → St → Option R) (a0 : Y3_1) : ∀ (n : Nat) (x : ((Int) × (Int) × ((List Int)))), siteI E call n_spec_FlowOf k s_spec_FlowOf (a0, ()) J 0 n (S0 a0 x.1 x.2.1 x.2.2) = L0 call k a0  n x.1 x.2.1 x.2.2 := by
  refine loop_eq (E := E) (call := call) (f := n_spec_FlowOf) (k := k) (s := s_spec_FlowOf) (l := (a0, ())) (J := J) (i := 0) (X := ((Int) × (Int) × ((List Int)))) (fun x => S0 a0 x.1 x.2.1 x.2.2) (fun n x => L0 call k a0  n x.1 x.2.1 x.2.2) (fun r x => step0 call k a0  (fun (a0 : Y3_1) (v1_0_ : Int) (v1_1_ : (List Int)) (v1_2_ : (List Int)) (v1_3_ : Int) (v1_4_ : Int) => L1 call k a0 k v1_0_ v1_1_ v1_2_ v1_3_ v1_4_) (fun v0_0 v0_1 v0_3 => r (v0_0, v0_1, v0_3)) x.1 x.2.1 x.2.2) ?_ ?_ ?_
  · intro x; rfl
  · intro n x; rfl
  intro J0 x
  refine Eq.trans (b := step0 call k a0  (fun a0 v1_0_ v1_1_ v1_2_ v1_3_ v1_4_ => siteI E call n_spec_FlowOf k s_spec_FlowOf (a0, ()) (upJ 0 J0 J) 1 k (S1 a0 v1_0_ v1_1_ v1_2_ v1_3_ v1_4_)) (fun v0_0 v0_1 v0_3 => J0 (S0 a0 v0_0 v0_1 v0_3)) x.1 x.2.1 x.2.2) (by kernel_rfl) ?_
  rw [show (fun (a0 : Y3_1) (v1_0_ : Int) (v1_1_ : (List Int)) (v1_2_ : (List Int)) (v1_3_ : Int) (v1_4_ : Int) => siteI E call n_spec_FlowOf k s_spec_FlowOf (a0, ()) (upJ 0 J0 J) 1 k (S1 a0 v1_0_ v1_1_ v1_2_ v1_3_ v1_4_)) = (fun (a0 : Y3_1) (v1_0_ : Int) (v1_1_ : (List Int)) (v1_2_ : (List Int)) (v1_3_ : Int) (v1_4_ : Int) => L1 call k a0 k v1_0_ v1_1_ v1_2_ v1_3_ v1_4_) from funext fun a0 => funext fun v1_0_ => funext fun v1_1_ => funext fun v1_2_ => funext fun v1_3_ => funext fun v1_4_ => L1_eq call k (upJ 0 J0 J) a0 k (v1_0_, v1_1_, v1_2_, v1_3_, v1_4_)]
  all_goals rfl
theorem F_eq (call : Cl) (k : Nat) (a0 : Y3_1) : bodyK E call n_spec_FlowOf k s_spec_FlowOf (a0, ()) = F call k a0 := by
  exact Eq.trans (b := Fm call k (fun a0 v0_0_ v0_1_ v0_3_ => siteI E call n_spec_FlowOf k s_spec_FlowOf (a0, ()) (fun _ _ => none) 0 k (S0 a0 v0_0_ v0_1_ v0_3_)) a0) (by kernel_rfl) (congrArg (fun l => Fm call k l a0) (funext fun a0 => funext fun v0_0_ => funext fun v0_1_ => funext fun v0_3_ => L0_eq call k (fun _ _ => none) a0 k (v0_0_, v0_1_, v0_3_)))
end spec_FlowOf
/-! #### spec_IsQuiet -/
namespace spec_IsQuiet
abbrev R := ((Bool × Unit) × Unit)
def S0 (a0 : Y3_1) (v0_0 : Int) (v0_1 : Int) : St := ⟨mkS 31 [(1, .v tI v0_0), (2, .p [500002] [] 0), (5, .v tI v0_1)], [([500002], .box (.v tPg ((a0.1), ((a0.2.1), ((a0.2.2.1), ((a0.2.2.2.1), ((a0.2.2.2.2.1), ((a0.2.2.2.2.2.1), ()))))))))]⟩
def step0 (call : Cl) (k : Nat) (a0 : Y3_1)   (r0 : (Int) → (Int) → Option R) (v0_0 : Int) (v0_1 : Int) : Option R := bif decide (v0_0 > 0) then r0 (IntKind.i64.wrap (v0_0 - 1)) (IntKind.i64.wrap (v0_1 * 2)) else (call 44 s_spec_FlowOf ((a0.1, a0.2.1, a0.2.2.1, a0.2.2.2.1, a0.2.2.2.2.1, a0.2.2.2.2.2.1, ()), ())).bind fun (y2 : (((List Int × List Int × Int × Int × Unit) × Unit) × Unit)) => bif decide (v0_1 = 0) then none else some (((IntKind.i64.wrap (Int.tdiv y2.1.1.2.2.2.1 v0_1)).tmod 2 == 0, ()), ())
def L0 (call : Cl) (k : Nat) (a0 : Y3_1)  : Nat → (Int) → (Int) → Option R | 0, _, _ => none | n + 1, v0_0, v0_1 => step0 call k a0   (L0 call k a0  n) v0_0 v0_1
def Fm (call : Cl) (k : Nat) (l0 : Y3_0 → (Int) → (Int) → Option R) (a0 : Y3_1) (a1 : Int) : Option R := (call 22 s_spec_ProgOk (a0, ())).bind fun (y0 : Y3_11 × Unit) => bif !y0.1.1 then some ((false, ()), ()) else (call 43 s_spec_l1In (a1, 0, IntKind.i64.wrap ((↑(List.length a0.2.2.1) : Int) - 1), ())).bind fun (y1 : Y3_11 × Unit) => bif !y1.1.1 then some ((false, ()), ()) else l0 a0 a1 1
def F (call : Cl) (k : Nat) (a0 : Y3_1) (a1 : Int) : Option R := Fm call k (fun a0_ v0_0_ v0_1_ => L0 call k a0_ k v0_0_ v0_1_) a0 a1
theorem L0_eq (call : Cl) (k : Nat) (J : Nat → St → Option R) (a0 : Y3_1) (a1 : Int) : ∀ (n : Nat) (x : Y3_10), siteI E call n_spec_IsQuiet k s_spec_IsQuiet (a0, a1, ()) J 0 n (S0 a0 x.1 x.2) = L0 call k a0  n x.1 x.2 := by
  refine loop_eq (E := E) (call := call) (f := n_spec_IsQuiet) (k := k) (s := s_spec_IsQuiet) (l := (a0, a1, ())) (J := J) (i := 0) (X := Y3_10) (fun x => S0 a0 x.1 x.2) (fun n x => L0 call k a0  n x.1 x.2) (fun r x => step0 call k a0   (fun v0_0 v0_1 => r (v0_0, v0_1)) x.1 x.2) ?_ ?_ ?_
  · intro x; rfl
  · intro n x; rfl
  intro J0 x
  kernel_rfl
theorem F_eq (call : Cl) (k : Nat) (a0 : Y3_1) (a1 : Int) : bodyK E call n_spec_IsQuiet k s_spec_IsQuiet (a0, a1, ()) = F call k a0 a1 := by
  exact Eq.trans (b := Fm call k (fun a0 v0_0_ v0_1_ => siteI E call n_spec_IsQuiet k s_spec_IsQuiet (a0, a1, ()) (fun _ _ => none) 0 k (S0 a0 v0_0_ v0_1_)) a0 a1) (by kernel_rfl) (congrArg (fun l => Fm call k l a0 a1) (funext fun a0 => funext fun v0_0_ => funext fun v0_1_ => L0_eq call k (fun _ _ => none) a0 a1 k (v0_0_, v0_1_)))
end spec_IsQuiet
/-! #### spec_IsSafe -/
namespace spec_IsSafe
abbrev R := ((Bool × Unit) × Unit)
def S0 (a0 : Y3_1) (v0_0 : Int) : St := ⟨mkS 42 [(1, .p [500001] [] 0), (3, .v tI v0_0)], [([500001], .box (.v tPg ((a0.1), ((a0.2.1), ((a0.2.2.1), ((a0.2.2.2.1), ((a0.2.2.2.2.1), ((a0.2.2.2.2.2.1), ()))))))))]⟩
def step0 (call : Cl) (k : Nat) (a0 : Y3_1)   (r0 : (Int) → Option R) (v0_0 : Int) : Option R := bif decide (v0_0 < (↑a0.2.2.1.length : Int)) then bif decide (0 ≤ v0_0) then (lget a0.2.2.1 v0_0.toNat).bind fun (y1 : Int × Int × Unit) => bif y1.2.1 == 0 then (call 23 s_spec_IsQuiet ((a0.1, a0.2.1, a0.2.2.1, a0.2.2.2.1, a0.2.2.2.2.1, a0.2.2.2.2.2.1, ()), v0_0, ())).bind fun (y2 : Y3_11 × Unit) => bif !y2.1.1 then some ((false, ()), ()) else bif decide (y1.2.1 > 0) then (call 24 s_spec_l3Bits (y1.1, ())).bind fun (y3 : Y3_12 × Unit) => bif decide (y3.1.1 > y1.2.1) then some ((false, ()), ()) else r0 (IntKind.i64.wrap (v0_0 + 1)) else r0 (IntKind.i64.wrap (v0_0 + 1)) else bif decide (y1.2.1 > 0) then (call 24 s_spec_l3Bits (y1.1, ())).bind fun (y4 : Y3_12 × Unit) => bif decide (y4.1.1 > y1.2.1) then some ((false, ()), ()) else r0 (IntKind.i64.wrap (v0_0 + 1)) else r0 (IntKind.i64.wrap (v0_0 + 1)) else none else some ((true, ()), ())
def L0 (call : Cl) (k : Nat) (a0 : Y3_1)  : Nat → (Int) → Option R | 0, _ => none | n + 1, v0_0 => step0 call k a0   (L0 call k a0  n) v0_0
def Fm (call : Cl) (k : Nat) (l0 : Y3_0 → (Int) → Option R) (a0 : Y3_1) : Option R := (call 22 s_spec_ProgOk (a0, ())).bind fun (y0 : Y3_11 × Unit) => bif !y0.1.1 then some ((false, ()), ()) else l0 a0 0
def F (call : Cl) (k : Nat) (a0 : Y3_1) : Option R := Fm call k (fun a0_ v0_0_ => L0 call k a0_ k v0_0_) a0
theorem L0_eq (call : Cl) (k : Nat) (J : Nat → St → Option R) (a0 : Y3_1) : ∀ (n : Nat) (x : (Int)), siteI E call n_spec_IsSafe k s_spec_IsSafe (a0, ()) J 0 n (S0 a0 x) = L0 call k a0  n x := by
  refine loop_eq (E := E) (call := call) (f := n_spec_IsSafe) (k := k) (s := s_spec_IsSafe) (l := (a0, ())) (J := J) (i := 0) (X := (Int)) (fun x => S0 a0 x) (fun n x => L0 call k a0  n x) (fun r x => step0 call k a0   (fun v0_0 => r v0_0) x) ?_ ?_ ?_
  · intro x; rfl
  · intro n x; rfl
  intro J0 x
  kernel_rfl
theorem F_eq (call : Cl) (k : Nat) (a0 : Y3_1) : bodyK E call n_spec_IsSafe k s_spec_IsSafe (a0, ()) = F call k a0 := by
  exact Eq.trans (b := Fm call k (fun a0 v0_0_ => siteI E call n_spec_IsSafe k s_spec_IsSafe (a0, ()) (fun _ _ => none) 0 k (S0 a0 v0_0_)) a0) (by kernel_rfl) (congrArg (fun l => Fm call k l a0) (funext fun a0 => funext fun v0_0_ => L0_eq call k (fun _ _ => none) a0 k v0_0_))
end spec_IsSafe
end Go.Proofs.Ytafgkoelefpacaa.Pf
