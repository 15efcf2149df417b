/- Printed texts: what the reading of these functions is. No condition. -/
import Derived.Test.YtcmgjdmhemfecaaPvEnv
import Derived.KernelRfl
set_option linter.unusedVariables false
namespace Go.Proofs.Ytcmgjdmhemfecaa.Pf
open Go Go.Pv
abbrev Y0_0 := (Int × ((List (List Int)) × Unit))
abbrev Y0_1 := ((Int) × (Int) × ((List Bool)))
abbrev Y0_2 := (List (List Int))
abbrev Y0_3 := ((Int) × (Int))
/-! #### laws_eqInt64S -/
namespace laws_eqInt64S
abbrev R := ((Bool × Unit) × Unit)
def S0 (a0 : (List Int)) (a1 : (List Int)) (v0_2 : Int) : St := ⟨mkS 26 [(0, .v (.slc (.int .i64)) (a0)), (1, .v (.slc (.int .i64)) (a1)), (5, .v (.int .i64) v0_2)], []⟩
def step0 (call : Cl) (k : Nat) (a0 : (List Int)) (a1 : (List Int))   (r0 : (Int) → Option R) (v0_2 : Int) : Option R :=
    bif decide (v0_2 < (↑a0.length : Int)) then
    bif decide ((0 : Int) ≤ v0_2) then
      (lget a0 v0_2.toNat).bind fun (y0 : Int) =>
        bif decide ((0 : Int) ≤ v0_2) then
          (lget a1 v0_2.toNat).bind fun (y1 : Int) =>
            bif y0 != y1 then some ((false, ()), ()) else r0 (IntKind.i64.wrap (v0_2 + (1 : Int)))
        else none
    else none
  else some ((true, ()), ())
def L0 (call : Cl) (k : Nat) (a0 : (List Int)) (a1 : (List Int))  : Nat → (Int) → Option R
    | 0, _ => none
    | n + 1, v0_2 => step0 call k a0 a1   (L0 call k a0 a1  n) v0_2
def Fm (call : Cl) (k : Nat) (l0 : ((List Int)) → ((List Int)) → (Int) → Option R) (a0 : (List Int)) (a1 : (List Int)) : Option R :=
    bif (↑a0.length : Int) != (↑a1.length : Int) then some ((false, ()), ()) else l0 a0 a1 (0 : Int)
def F (call : Cl) (k : Nat) (a0 : (List Int)) (a1 : (List Int)) : Option R := Fm call k (fun a0_ a1_ v0_2_ => L0 call k a0_ a1_ k v0_2_) a0 a1
theorem L0_eq (call : Cl) (k : Nat) (J : Nat → St → Option R) (a0 : (List Int)) (a1 : (List Int)) : ∀ (n : Nat) (x : (Int)), siteI E call n_laws_eqInt64S k s_laws_eqInt64S (a0, a1, ()) J 0 n (S0 a0 a1 x) = L0 call k a0 a1  n x := by
  refine loop_eq (E := E) (call := call) (f := n_laws_eqInt64S) (k := k) (s := s_laws_eqInt64S) (l := (a0, a1, ())) (J := J) (i := 0) (X := (Int)) (fun x => S0 a0 a1 x) (fun n x => L0 call k a0 a1  n x) (fun r x => step0 call k a0 a1   (fun v0_2 => r v0_2) x) ?_ ?_ ?_
  · intro x; rfl
  · intro n x; rfl
  intro J0 x
  kernel_rfl
theorem F_eq (call : Cl) (k : Nat) (a0 : (List Int)) (a1 : (List Int)) : bodyK E call n_laws_eqInt64S k s_laws_eqInt64S (a0, a1, ()) = F call k a0 a1 := by
  exact Eq.trans (b := Fm call k (fun a0 a1 v0_2_ => siteI E call n_laws_eqInt64S k s_laws_eqInt64S (a0, a1, ()) (fun _ _ => none) 0 k (S0 a0 a1 v0_2_)) a0 a1) (by kernel_rfl) (congrArg (fun l => Fm call k l a0 a1) (funext fun a0 => funext fun a1 => funext fun v0_2_ => L0_eq call k (fun _ _ => none) a0 a1 k v0_2_))
end laws_eqInt64S
/-! #### laws_markInt64S -/
namespace laws_markInt64S
abbrev R := ((Int × Unit) × ((List Int) × Unit))
def S0 (v0_0 : Int) (v0_1 : Int) (v0_2 : (List Int)) : St := ⟨mkS 19 [(0, .ref [0]), (1, .v (.int .i64) v0_0), (5, .v (.int .i64) v0_1)], [([0], .list 2 (.int .i64) v0_2)]⟩
def step0 (call : Cl) (k : Nat)    (r0 : (Int) → (Int) → ((List Int)) → Option R) (v0_0 : Int) (v0_1 : Int) (v0_2 : (List Int)) : Option R :=
    bif decide (v0_1 < (↑v0_2.length : Int)) then
    bif decide ((0 : Int) ≤ v0_1) && decide (v0_1.toNat < v0_2.length) then
      (lget v0_2 v0_1.toNat).bind fun (y0 : Int) =>
        r0 (IntKind.i64.wrap (v0_0 + (1 : Int))) (IntKind.i64.wrap (v0_1 + (1 : Int))) (v0_2.set v0_1.toNat v0_0)
    else none
  else some ((v0_0, ()), v0_2, ())
def L0 (call : Cl) (k : Nat)   : Nat → (Int) → (Int) → ((List Int)) → Option R
    | 0, _, _, _ => none
    | n + 1, v0_0, v0_1, v0_2 => step0 call k    (L0 call k   n) v0_0 v0_1 v0_2
def Fm (call : Cl) (k : Nat) (l0 : (Int) → (Int) → ((List Int)) → Option R) (a0 : (List Int)) (a1 : Int) : Option R :=
    l0 a1 (0 : Int) a0
def F (call : Cl) (k : Nat) (a0 : (List Int)) (a1 : Int) : Option R := Fm call k (fun v0_0_ v0_1_ v0_2_ => L0 call k  k v0_0_ v0_1_ v0_2_) a0 a1
theorem L0_eq (call : Cl) (k : Nat) (J : Nat → St → Option R) (a0 : (List Int)) (a1 : Int) : ∀ (n : Nat) (x : ((Int) × (Int) × ((List Int)))), siteI E call n_laws_markInt64S k s_laws_markInt64S (a0, a1, ()) J 0 n (S0  x.1 x.2.1 x.2.2) = L0 call k   n x.1 x.2.1 x.2.2 := by
  refine loop_eq (E := E) (call := call) (f := n_laws_markInt64S) (k := k) (s := s_laws_markInt64S) (l := (a0, a1, ())) (J := J) (i := 0) (X := ((Int) × (Int) × ((List Int)))) (fun x => S0  x.1 x.2.1 x.2.2) (fun n x => L0 call k   n x.1 x.2.1 x.2.2) (fun r x => step0 call k    (fun v0_0 v0_1 v0_2 => r (v0_0, v0_1, v0_2)) x.1 x.2.1 x.2.2) ?_ ?_ ?_
  · intro x; rfl
  · intro n x; rfl
  intro J0 x
  kernel_rfl
theorem F_eq (call : Cl) (k : Nat) (a0 : (List Int)) (a1 : Int) : bodyK E call n_laws_markInt64S k s_laws_markInt64S (a0, a1, ()) = F call k a0 a1 := by
  exact Eq.trans (b := Fm call k (fun v0_0_ v0_1_ v0_2_ => siteI E call n_laws_markInt64S k s_laws_markInt64S (a0, a1, ()) (fun _ _ => none) 0 k (S0 v0_0_ v0_1_ v0_2_)) a0 a1) (by kernel_rfl) (congrArg (fun l => Fm call k l a0 a1) (funext fun v0_0_ => funext fun v0_1_ => funext fun v0_2_ => L0_eq call k (fun _ _ => none) a0 a1 k (v0_0_, v0_1_, v0_2_)))
end laws_markInt64S
/-! #### laws_heldInt64S -/
namespace laws_heldInt64S
abbrev R := ((Int × Unit) × Unit)
def S0 (a0 : (List Int)) (v0_1 : Int) (v0_2 : Int) : St := ⟨mkS 21 [(0, .v (.slc (.int .i64)) (a0)), (1, .v (.int .i64) v0_1), (5, .v (.int .i64) v0_2)], []⟩
def step0 (call : Cl) (k : Nat) (a0 : (List Int))   (r0 : (Int) → (Int) → Option R) (v0_1 : Int) (v0_2 : Int) : Option R :=
    bif decide (v0_2 < (↑a0.length : Int)) then
    bif decide ((0 : Int) ≤ v0_2) then
      (lget a0 v0_2.toNat).bind fun (y0 : Int) =>
        bif y0 != v0_1 then some (((-1 : Int), ()), ())
        else r0 (IntKind.i64.wrap (v0_1 + (1 : Int))) (IntKind.i64.wrap (v0_2 + (1 : Int)))
    else none
  else some ((v0_1, ()), ())
def L0 (call : Cl) (k : Nat) (a0 : (List Int))  : Nat → (Int) → (Int) → Option R
    | 0, _, _ => none
    | n + 1, v0_1, v0_2 => step0 call k a0   (L0 call k a0  n) v0_1 v0_2
def Fm (call : Cl) (k : Nat) (l0 : ((List Int)) → (Int) → (Int) → Option R) (a0 : (List Int)) (a1 : Int) : Option R :=
    l0 a0 a1 (0 : Int)
def F (call : Cl) (k : Nat) (a0 : (List Int)) (a1 : Int) : Option R := Fm call k (fun a0_ v0_1_ v0_2_ => L0 call k a0_ k v0_1_ v0_2_) a0 a1
theorem L0_eq (call : Cl) (k : Nat) (J : Nat → St → Option R) (a0 : (List Int)) (a1 : Int) : ∀ (n : Nat) (x : Y0_3), siteI E call n_laws_heldInt64S k s_laws_heldInt64S (a0, a1, ()) J 0 n (S0 a0 x.1 x.2) = L0 call k a0  n x.1 x.2 := by
  refine loop_eq (E := E) (call := call) (f := n_laws_heldInt64S) (k := k) (s := s_laws_heldInt64S) (l := (a0, a1, ())) (J := J) (i := 0) (X := Y0_3) (fun x => S0 a0 x.1 x.2) (fun n x => L0 call k a0  n x.1 x.2) (fun r x => step0 call k a0   (fun v0_1 v0_2 => r (v0_1, v0_2)) x.1 x.2) ?_ ?_ ?_
  · intro x; rfl
  · intro n x; rfl
  intro J0 x
  kernel_rfl
theorem F_eq (call : Cl) (k : Nat) (a0 : (List Int)) (a1 : Int) : bodyK E call n_laws_heldInt64S k s_laws_heldInt64S (a0, a1, ()) = F call k a0 a1 := by
  exact Eq.trans (b := Fm call k (fun a0 v0_1_ v0_2_ => siteI E call n_laws_heldInt64S k s_laws_heldInt64S (a0, a1, ()) (fun _ _ => none) 0 k (S0 a0 v0_1_ v0_2_)) a0 a1) (by kernel_rfl) (congrArg (fun l => Fm call k l a0 a1) (funext fun a0 => funext fun v0_1_ => funext fun v0_2_ => L0_eq call k (fun _ _ => none) a0 a1 k (v0_1_, v0_2_)))
end laws_heldInt64S
/-! #### laws_toInt64S -/
namespace laws_toInt64S
abbrev R := (((List Int) × Unit) × Unit)
def S0 (a0 : (List Int)) (v0_1 : Int) (v0_2 : (List Int)) : St := ⟨mkS 22 [(0, .v (.slc (.int .i64)) (a0)), (3, .ref [3]), (4, .v (.int .i64) v0_1)], [([3], .list 2 (.int .i64) v0_2)]⟩
def step0 (call : Cl) (k : Nat) (a0 : (List Int))   (r0 : (Int) → ((List Int)) → Option R) (v0_1 : Int) (v0_2 : (List Int)) : Option R :=
    bif decide (v0_1 < (↑a0.length : Int)) then
    bif decide ((0 : Int) ≤ v0_1) then
      (lget a0 v0_1.toNat).bind fun (y0 : Int) =>
        bif decide ((0 : Int) ≤ v0_1) && decide (v0_1.toNat < v0_2.length) then
          (lget v0_2 v0_1.toNat).bind fun (y1 : Int) => r0 (IntKind.i64.wrap (v0_1 + (1 : Int))) (v0_2.set v0_1.toNat y0)
        else none
    else none
  else some ((v0_2, ()), ())
def L0 (call : Cl) (k : Nat) (a0 : (List Int))  : Nat → (Int) → ((List Int)) → Option R
    | 0, _, _ => none
    | n + 1, v0_1, v0_2 => step0 call k a0   (L0 call k a0  n) v0_1 v0_2
def Fm (call : Cl) (k : Nat) (l0 : ((List Int)) → (Int) → ((List Int)) → Option R) (a0 : (List Int)) : Option R :=
    bif
      decide ((↑a0.length : Int) = (↑a0.length : Int)) && decide ((0 : Int) ≤ (↑a0.length : Int)) &&
        decide ((↑a0.length : Int) * (↑ti2.bytes : Int) ≤ (281474976710656 : Int)) then
    l0 a0 (0 : Int) (List.replicate (↑a0.length : Int).toNat (Int.ofNat (nat_lit 0)))
  else none
def F (call : Cl) (k : Nat) (a0 : (List Int)) : Option R := Fm call k (fun a0_ v0_1_ v0_2_ => L0 call k a0_ k v0_1_ v0_2_) a0
theorem L0_eq (call : Cl) (k : Nat) (J : Nat → St → Option R) (a0 : (List Int)) : ∀ (n : Nat) (x : ((Int) × ((List Int)))), siteI E call n_laws_toInt64S k s_laws_toInt64S (a0, ()) J 0 n (S0 a0 x.1 x.2) = L0 call k a0  n x.1 x.2 := by
  refine loop_eq (E := E) (call := call) (f := n_laws_toInt64S) (k := k) (s := s_laws_toInt64S) (l := (a0, ())) (J := J) (i := 0) (X := ((Int) × ((List Int)))) (fun x => S0 a0 x.1 x.2) (fun n x => L0 call k a0  n x.1 x.2) (fun r x => step0 call k a0   (fun v0_1 v0_2 => r (v0_1, v0_2)) x.1 x.2) ?_ ?_ ?_
  · intro x; rfl
  · intro n x; rfl
  intro J0 x
  kernel_rfl
theorem F_eq (call : Cl) (k : Nat) (a0 : (List Int)) : bodyK E call n_laws_toInt64S k s_laws_toInt64S (a0, ()) = F call k a0 := by
  exact Eq.trans (b := Fm call k (fun a0 v0_1_ v0_2_ => siteI E call n_laws_toInt64S k s_laws_toInt64S (a0, ()) (fun _ _ => none) 0 k (S0 a0 v0_1_ v0_2_)) a0) (by kernel_rfl) (congrArg (fun l => Fm call k l a0) (funext fun a0 => funext fun v0_1_ => funext fun v0_2_ => L0_eq call k (fun _ _ => none) a0 k (v0_1_, v0_2_)))
end laws_toInt64S
/-! #### laws_szInt64S -/
namespace laws_szInt64S
abbrev R := ((Int × Unit) × Unit)
def Fm (call : Cl) (k : Nat)  (a0 : (List Int)) (a1 : Int) : Option R :=
    bif decide (IntKind.i64.wrap (a1 - (↑a0.length : Int)) < (0 : Int)) then some (((-1 : Int), ()), ())
  else some ((IntKind.i64.wrap (a1 - (↑a0.length : Int)), ()), ())
def F (call : Cl) (k : Nat) (a0 : (List Int)) (a1 : Int) : Option R := Fm call k  a0 a1
theorem F_eq (call : Cl) (k : Nat) (a0 : (List Int)) (a1 : Int) : bodyK E call n_laws_szInt64S k s_laws_szInt64S (a0, a1, ()) = F call k a0 a1 := by
  kernel_rfl
end laws_szInt64S
/-! #### laws_toInt64SS -/
namespace laws_toInt64SS
abbrev R := (((List (List Int)) × Unit) × Unit)
def S0 (a0 : Y0_2) (v0_1 : Int) (v0_2 : Y0_2) : St := ⟨mkS 23 [(0, .v (.slc (.slc (.int .i64))) (a0)), (3, .ref [3]), (4, .v (.int .i64) v0_1)], [([3], .list 41 (.own 2 (.int .i64)) v0_2)]⟩
def step0 (call : Cl) (k : Nat) (a0 : (List (List Int)))   (r0 : (Int) → ((List (List Int))) → Option R) (v0_1 : Int) (v0_2 : (List (List Int))) : Option R :=
    bif decide (v0_1 < (↑a0.length : Int)) then
    bif decide ((0 : Int) ≤ v0_1) then
      (lget a0 v0_1.toNat).bind fun (y0 : List Int) =>
        (call (81 : Nat) s_laws_toInt64S (y0, ())).bind fun (y1 : (List Int × PUnit) × PUnit) =>
          bif decide ((0 : Int) ≤ v0_1) && decide (v0_1.toNat < v0_2.length) then
            (lget v0_2 v0_1.toNat).bind fun (y2 : List Int) =>
              r0 (IntKind.i64.wrap (v0_1 + (1 : Int))) (v0_2.set v0_1.toNat y1.fst.fst)
          else none
    else none
  else some ((v0_2, ()), ())
def L0 (call : Cl) (k : Nat) (a0 : (List (List Int)))  : Nat → (Int) → ((List (List Int))) → Option R
    | 0, _, _ => none
    | n + 1, v0_1, v0_2 => step0 call k a0   (L0 call k a0  n) v0_1 v0_2
def Fm (call : Cl) (k : Nat) (l0 : ((List (List Int))) → (Int) → ((List (List Int))) → Option R) (a0 : (List (List Int))) : Option R :=
    bif
      decide ((↑a0.length : Int) = (↑a0.length : Int)) && decide ((0 : Int) ≤ (↑a0.length : Int)) &&
        decide ((↑a0.length : Int) * (↑ti41.bytes : Int) ≤ (281474976710656 : Int)) then
    l0 a0 (0 : Int) (List.replicate (↑a0.length : Int).toNat [])
  else none
def F (call : Cl) (k : Nat) (a0 : (List (List Int))) : Option R := Fm call k (fun a0_ v0_1_ v0_2_ => L0 call k a0_ k v0_1_ v0_2_) a0
theorem L0_eq (call : Cl) (k : Nat) (J : Nat → St → Option R) (a0 : Y0_2) : ∀ (n : Nat) (x : ((Int) × (Y0_2))), siteI E call n_laws_toInt64SS k s_laws_toInt64SS (a0, ()) J 0 n (S0 a0 x.1 x.2) = L0 call k a0  n x.1 x.2 := by
  refine loop_eq (E := E) (call := call) (f := n_laws_toInt64SS) (k := k) (s := s_laws_toInt64SS) (l := (a0, ())) (J := J) (i := 0) (X := ((Int) × (Y0_2))) (fun x => S0 a0 x.1 x.2) (fun n x => L0 call k a0  n x.1 x.2) (fun r x => step0 call k a0   (fun v0_1 v0_2 => r (v0_1, v0_2)) x.1 x.2) ?_ ?_ ?_
  · intro x; rfl
  · intro n x; rfl
  intro J0 x
  kernel_rfl
theorem F_eq (call : Cl) (k : Nat) (a0 : Y0_2) : bodyK E call n_laws_toInt64SS k s_laws_toInt64SS (a0, ()) = F call k a0 := by
  exact Eq.trans (b := Fm call k (fun a0 v0_1_ v0_2_ => siteI E call n_laws_toInt64SS k s_laws_toInt64SS (a0, ()) (fun _ _ => none) 0 k (S0 a0 v0_1_ v0_2_)) a0) (by kernel_rfl) (congrArg (fun l => Fm call k l a0) (funext fun a0 => funext fun v0_1_ => funext fun v0_2_ => L0_eq call k (fun _ _ => none) a0 k (v0_1_, v0_2_)))
end laws_toInt64SS
/-! #### laws_szInt64SS -/
namespace laws_szInt64SS
abbrev R := ((Int × Unit) × Unit)
def S0 (a0 : Y0_2) (v0_1 : Int) (v0_2 : Int) : St := ⟨mkS 27 [(0, .v (.slc (.slc (.int .i64))) (a0)), (1, .v (.int .i64) v0_1), (5, .v (.int .i64) v0_2)], []⟩
def step0 (call : Cl) (k : Nat) (a0 : (List (List Int)))   (r0 : (Int) → (Int) → Option R) (v0_1 : Int) (v0_2 : Int) : Option R :=
    bif decide (v0_2 < (↑a0.length : Int)) then
    bif decide ((0 : Int) ≤ v0_2) then
      (lget a0 v0_2.toNat).bind fun (y0 : List Int) =>
        (call (147 : Nat) s_laws_szInt64S (y0, v0_1, ())).bind fun (y1 : (Int × PUnit) × PUnit) =>
          bif decide (y1.fst.fst < (0 : Int)) then some (((-1 : Int), ()), ())
          else r0 y1.fst.fst (IntKind.i64.wrap (v0_2 + (1 : Int)))
    else none
  else some ((v0_1, ()), ())
def L0 (call : Cl) (k : Nat) (a0 : (List (List Int)))  : Nat → (Int) → (Int) → Option R
    | 0, _, _ => none
    | n + 1, v0_1, v0_2 => step0 call k a0   (L0 call k a0  n) v0_1 v0_2
def Fm (call : Cl) (k : Nat) (l0 : ((List (List Int))) → (Int) → (Int) → Option R) (a0 : (List (List Int))) (a1 : Int) : Option R :=
    bif decide (IntKind.i64.wrap (a1 - (↑a0.length : Int)) < (0 : Int)) then some (((-1 : Int), ()), ())
  else l0 a0 (IntKind.i64.wrap (a1 - (↑a0.length : Int))) (0 : Int)
def F (call : Cl) (k : Nat) (a0 : (List (List Int))) (a1 : Int) : Option R := Fm call k (fun a0_ v0_1_ v0_2_ => L0 call k a0_ k v0_1_ v0_2_) a0 a1
theorem L0_eq (call : Cl) (k : Nat) (J : Nat → St → Option R) (a0 : Y0_2) (a1 : Int) : ∀ (n : Nat) (x : Y0_3), siteI E call n_laws_szInt64SS k s_laws_szInt64SS (a0, a1, ()) J 0 n (S0 a0 x.1 x.2) = L0 call k a0  n x.1 x.2 := by
  refine loop_eq (E := E) (call := call) (f := n_laws_szInt64SS) (k := k) (s := s_laws_szInt64SS) (l := (a0, a1, ())) (J := J) (i := 0) (X := Y0_3) (fun x => S0 a0 x.1 x.2) (fun n x => L0 call k a0  n x.1 x.2) (fun r x => step0 call k a0   (fun v0_1 v0_2 => r (v0_1, v0_2)) x.1 x.2) ?_ ?_ ?_
  · intro x; rfl
  · intro n x; rfl
  intro J0 x
  kernel_rfl
theorem F_eq (call : Cl) (k : Nat) (a0 : Y0_2) (a1 : Int) : bodyK E call n_laws_szInt64SS k s_laws_szInt64SS (a0, a1, ()) = F call k a0 a1 := by
  exact Eq.trans (b := Fm call k (fun a0 v0_1_ v0_2_ => siteI E call n_laws_szInt64SS k s_laws_szInt64SS (a0, a1, ()) (fun _ _ => none) 0 k (S0 a0 v0_1_ v0_2_)) a0 a1) (by kernel_rfl) (congrArg (fun l => Fm call k l a0 a1) (funext fun a0 => funext fun v0_1_ => funext fun v0_2_ => L0_eq call k (fun _ _ => none) a0 a1 k (v0_1_, v0_2_)))
end laws_szInt64SS
/-! #### laws_eqInt64SS -/
namespace laws_eqInt64SS
abbrev R := ((Bool × Unit) × Unit)
def S0 (a0 : Y0_2) (a1 : Y0_2) (v0_2 : Int) : St := ⟨mkS 27 [(0, .v (.slc (.slc (.int .i64))) (a0)), (1, .v (.slc (.slc (.int .i64))) (a1)), (5, .v (.int .i64) v0_2)], []⟩
def step0 (call : Cl) (k : Nat) (a0 : (List (List Int))) (a1 : (List (List Int)))   (r0 : (Int) → Option R) (v0_2 : Int) : Option R :=
    bif decide (v0_2 < (↑a0.length : Int)) then
    bif decide ((0 : Int) ≤ v0_2) then
      (lget a0 v0_2.toNat).bind fun (y0 : List Int) =>
        bif decide ((0 : Int) ≤ v0_2) then
          (lget a1 v0_2.toNat).bind fun (y1 : List Int) =>
            (call (39 : Nat) s_laws_eqInt64S (y0, y1, ())).bind fun (y2 : (Bool × PUnit) × PUnit) =>
              bif !y2.fst.fst then some ((false, ()), ()) else r0 (IntKind.i64.wrap (v0_2 + (1 : Int)))
        else none
    else none
  else some ((true, ()), ())
def L0 (call : Cl) (k : Nat) (a0 : (List (List Int))) (a1 : (List (List Int)))  : Nat → (Int) → Option R
    | 0, _ => none
    | n + 1, v0_2 => step0 call k a0 a1   (L0 call k a0 a1  n) v0_2
def Fm (call : Cl) (k : Nat) (l0 : ((List (List Int))) → ((List (List Int))) → (Int) → Option R) (a0 : (List (List Int))) (a1 : (List (List Int))) : Option R :=
    bif (↑a0.length : Int) != (↑a1.length : Int) then some ((false, ()), ()) else l0 a0 a1 (0 : Int)
def F (call : Cl) (k : Nat) (a0 : (List (List Int))) (a1 : (List (List Int))) : Option R := Fm call k (fun a0_ a1_ v0_2_ => L0 call k a0_ a1_ k v0_2_) a0 a1
theorem L0_eq (call : Cl) (k : Nat) (J : Nat → St → Option R) (a0 : Y0_2) (a1 : Y0_2) : ∀ (n : Nat) (x : (Int)), siteI E call n_laws_eqInt64SS k s_laws_eqInt64SS (a0, a1, ()) J 0 n (S0 a0 a1 x) = L0 call k a0 a1  n x := by
  refine loop_eq (E := E) (call := call) (f := n_laws_eqInt64SS) (k := k) (s := s_laws_eqInt64SS) (l := (a0, a1, ())) (J := J) (i := 0) (X := (Int)) (fun x => S0 a0 a1 x) (fun n x => L0 call k a0 a1  n x) (fun r x => step0 call k a0 a1   (fun v0_2 => r v0_2) x) ?_ ?_ ?_
  · intro x; rfl
  · intro n x; rfl
  intro J0 x
  kernel_rfl
theorem F_eq (call : Cl) (k : Nat) (a0 : Y0_2) (a1 : Y0_2) : bodyK E call n_laws_eqInt64SS k s_laws_eqInt64SS (a0, a1, ()) = F call k a0 a1 := by
  exact Eq.trans (b := Fm call k (fun a0 a1 v0_2_ => siteI E call n_laws_eqInt64SS k s_laws_eqInt64SS (a0, a1, ()) (fun _ _ => none) 0 k (S0 a0 a1 v0_2_)) a0 a1) (by kernel_rfl) (congrArg (fun l => Fm call k l a0 a1) (funext fun a0 => funext fun a1 => funext fun v0_2_ => L0_eq call k (fun _ _ => none) a0 a1 k v0_2_))
end laws_eqInt64SS
/-! #### laws_markInt64SS -/
namespace laws_markInt64SS
abbrev R := ((Int × Unit) × ((List (List Int)) × Unit))
def S0 (v0_0 : Int) (v0_1 : Int) (v0_2 : Y0_2) : St := ⟨mkS 19 [(0, .ref [0]), (1, .v (.int .i64) v0_0), (5, .v (.int .i64) v0_1)], [([0], .list 41 (.own 2 (.int .i64)) v0_2)]⟩
def step0 (call : Cl) (k : Nat)    (r0 : (Int) → (Int) → ((List (List Int))) → Option R) (v0_0 : Int) (v0_1 : Int) (v0_2 : (List (List Int))) : Option R :=
    bif decide (v0_1 < (↑v0_2.length : Int)) then
    bif decide ((0 : Int) ≤ v0_1) && decide (v0_1.toNat < v0_2.length) then
      (lget v0_2 v0_1.toNat).bind fun (y0 : List Int) =>
        (call (41 : Nat) s_laws_markInt64S (y0, v0_0, ())).bind fun (y1 : (Int × PUnit) × List Int × PUnit) =>
          r0 y1.fst.fst (IntKind.i64.wrap (v0_1 + (1 : Int))) (v0_2.set v0_1.toNat y1.snd.fst)
    else none
  else some ((v0_0, ()), v0_2, ())
def L0 (call : Cl) (k : Nat)   : Nat → (Int) → (Int) → ((List (List Int))) → Option R
    | 0, _, _, _ => none
    | n + 1, v0_0, v0_1, v0_2 => step0 call k    (L0 call k   n) v0_0 v0_1 v0_2
def Fm (call : Cl) (k : Nat) (l0 : (Int) → (Int) → ((List (List Int))) → Option R) (a0 : (List (List Int))) (a1 : Int) : Option R :=
    l0 a1 (0 : Int) a0
def F (call : Cl) (k : Nat) (a0 : (List (List Int))) (a1 : Int) : Option R := Fm call k (fun v0_0_ v0_1_ v0_2_ => L0 call k  k v0_0_ v0_1_ v0_2_) a0 a1
theorem L0_eq (call : Cl) (k : Nat) (J : Nat → St → Option R) (a0 : Y0_2) (a1 : Int) : ∀ (n : Nat) (x : ((Int) × (Int) × (Y0_2))), siteI E call n_laws_markInt64SS k s_laws_markInt64SS (a0, a1, ()) J 0 n (S0  x.1 x.2.1 x.2.2) = L0 call k   n x.1 x.2.1 x.2.2 := by
  refine loop_eq (E := E) (call := call) (f := n_laws_markInt64SS) (k := k) (s := s_laws_markInt64SS) (l := (a0, a1, ())) (J := J) (i := 0) (X := ((Int) × (Int) × (Y0_2))) (fun x => S0  x.1 x.2.1 x.2.2) (fun n x => L0 call k   n x.1 x.2.1 x.2.2) (fun r x => step0 call k    (fun v0_0 v0_1 v0_2 => r (v0_0, v0_1, v0_2)) x.1 x.2.1 x.2.2) ?_ ?_ ?_
  · intro x; rfl
  · intro n x; rfl
  intro J0 x
  kernel_rfl
theorem F_eq (call : Cl) (k : Nat) (a0 : Y0_2) (a1 : Int) : bodyK E call n_laws_markInt64SS k s_laws_markInt64SS (a0, a1, ()) = F call k a0 a1 := by
  exact Eq.trans (b := Fm call k (fun v0_0_ v0_1_ v0_2_ => siteI E call n_laws_markInt64SS k s_laws_markInt64SS (a0, a1, ()) (fun _ _ => none) 0 k (S0 v0_0_ v0_1_ v0_2_)) a0 a1) (by kernel_rfl) (congrArg (fun l => Fm call k l a0 a1) (funext fun v0_0_ => funext fun v0_1_ => funext fun v0_2_ => L0_eq call k (fun _ _ => none) a0 a1 k (v0_0_, v0_1_, v0_2_)))
end laws_markInt64SS
/-! #### laws_szCnf -/
namespace laws_szCnf
abbrev R := ((Int × Unit) × Unit)
def Fm (call : Cl) (k : Nat)  (a0 : (Int × ((List (List Int)) × Unit))) (a1 : Int) : Option R :=
    (call (94 : Nat) s_laws_szInt64SS (a0.snd.fst, a1, ())).bind fun (y0 : (Int × PUnit) × PUnit) =>
    bif decide (y0.fst.fst < (0 : Int)) then some (((-1 : Int), ()), ()) else some ((y0.fst.fst, ()), ())
def F (call : Cl) (k : Nat) (a0 : (Int × ((List (List Int)) × Unit))) (a1 : Int) : Option R := Fm call k  a0 a1
theorem F_eq (call : Cl) (k : Nat) (a0 : Y0_0) (a1 : Int) : bodyK E call n_laws_szCnf k s_laws_szCnf (a0, a1, ()) = F call k a0 a1 := by
  kernel_rfl
end laws_szCnf
/-! #### laws_toCnf -/
namespace laws_toCnf
abbrev R := (((Int × ((List (List Int)) × Unit)) × Unit) × Unit)
def Fm (call : Cl) (k : Nat)  (a0 : (Int × ((List (List Int)) × Unit))) : Option R :=
    (call (97 : Nat) s_laws_toInt64SS (a0.snd.fst, ())).bind fun (y0 : (List (List Int) × PUnit) × PUnit) =>
    some (((a0.fst, y0.fst.fst, ()), ()), ())
def F (call : Cl) (k : Nat) (a0 : (Int × ((List (List Int)) × Unit))) : Option R := Fm call k  a0
theorem F_eq (call : Cl) (k : Nat) (a0 : Y0_0) : bodyK E call n_laws_toCnf k s_laws_toCnf (a0, ()) = F call k a0 := by
  kernel_rfl
end laws_toCnf
/-! #### laws_eqCnf -/
namespace laws_eqCnf
abbrev R := ((Bool × Unit) × Unit)
def Fm (call : Cl) (k : Nat)  (a0 : (Int × ((List (List Int)) × Unit))) (a1 : (Int × ((List (List Int)) × Unit))) : Option R :=
    bif a0.fst != a1.fst then some ((false, ()), ())
  else
    (call (100 : Nat) s_laws_eqInt64SS (a0.snd.fst, a1.snd.fst, ())).bind fun (y0 : (Bool × PUnit) × PUnit) =>
      bif !y0.fst.fst then some ((false, ()), ()) else some ((true, ()), ())
def F (call : Cl) (k : Nat) (a0 : (Int × ((List (List Int)) × Unit))) (a1 : (Int × ((List (List Int)) × Unit))) : Option R := Fm call k  a0 a1
theorem F_eq (call : Cl) (k : Nat) (a0 : Y0_0) (a1 : Y0_0) : bodyK E call n_laws_eqCnf k s_laws_eqCnf (a0, a1, ()) = F call k a0 a1 := by
  kernel_rfl
end laws_eqCnf
/-! #### laws_markCnf -/
namespace laws_markCnf
abbrev R := ((Int × Unit) × ((Int × ((List (List Int)) × Unit)) × Unit))
def Fm (call : Cl) (k : Nat)  (a0 : (Int × ((List (List Int)) × Unit))) (a1 : Int) : Option R :=
    (call (101 : Nat) s_laws_markInt64SS (a0.snd.fst, a1, ())).bind fun (y0 : (Int × PUnit) × List (List Int) × PUnit) =>
    some ((y0.fst.fst, ()), (a0.fst, y0.snd.fst, a0.snd.snd), ())
def F (call : Cl) (k : Nat) (a0 : (Int × ((List (List Int)) × Unit))) (a1 : Int) : Option R := Fm call k  a0 a1
theorem F_eq (call : Cl) (k : Nat) (a0 : Y0_0) (a1 : Int) : bodyK E call n_laws_markCnf k s_laws_markCnf (a0, a1, ()) = F call k a0 a1 := by
  kernel_rfl
end laws_markCnf
/-! #### laws_toBoolS -/
namespace laws_toBoolS
abbrev R := (((List Bool) × Unit) × Unit)
def S0 (a0 : (List Bool)) (v0_1 : Int) (v0_2 : (List Bool)) : St := ⟨mkS 22 [(0, .v (.slc .bool) (a0)), (3, .ref [3]), (4, .v (.int .i64) v0_1)], [([3], .list 4 .bool v0_2)]⟩
def step0 (call : Cl) (k : Nat) (a0 : (List Bool))   (r0 : (Int) → ((List Bool)) → Option R) (v0_1 : Int) (v0_2 : (List Bool)) : Option R :=
    bif decide (v0_1 < (↑a0.length : Int)) then
    bif decide ((0 : Int) ≤ v0_1) then
      (lget a0 v0_1.toNat).bind fun (y0 : Bool) =>
        bif decide ((0 : Int) ≤ v0_1) && decide (v0_1.toNat < v0_2.length) then
          (lget v0_2 v0_1.toNat).bind fun (y1 : Bool) => r0 (IntKind.i64.wrap (v0_1 + (1 : Int))) (v0_2.set v0_1.toNat y0)
        else none
    else none
  else some ((v0_2, ()), ())
def L0 (call : Cl) (k : Nat) (a0 : (List Bool))  : Nat → (Int) → ((List Bool)) → Option R
    | 0, _, _ => none
    | n + 1, v0_1, v0_2 => step0 call k a0   (L0 call k a0  n) v0_1 v0_2
def Fm (call : Cl) (k : Nat) (l0 : ((List Bool)) → (Int) → ((List Bool)) → Option R) (a0 : (List Bool)) : Option R :=
    bif
      decide ((↑a0.length : Int) = (↑a0.length : Int)) && decide ((0 : Int) ≤ (↑a0.length : Int)) &&
        decide ((↑a0.length : Int) * (↑ti4.bytes : Int) ≤ (281474976710656 : Int)) then
    l0 a0 (0 : Int) (List.replicate (↑a0.length : Int).toNat false)
  else none
def F (call : Cl) (k : Nat) (a0 : (List Bool)) : Option R := Fm call k (fun a0_ v0_1_ v0_2_ => L0 call k a0_ k v0_1_ v0_2_) a0
theorem L0_eq (call : Cl) (k : Nat) (J : Nat → St → Option R) (a0 : (List Bool)) : ∀ (n : Nat) (x : ((Int) × ((List Bool)))), siteI E call n_laws_toBoolS k s_laws_toBoolS (a0, ()) J 0 n (S0 a0 x.1 x.2) = L0 call k a0  n x.1 x.2 := by
  refine loop_eq (E := E) (call := call) (f := n_laws_toBoolS) (k := k) (s := s_laws_toBoolS) (l := (a0, ())) (J := J) (i := 0) (X := ((Int) × ((List Bool)))) (fun x => S0 a0 x.1 x.2) (fun n x => L0 call k a0  n x.1 x.2) (fun r x => step0 call k a0   (fun v0_1 v0_2 => r (v0_1, v0_2)) x.1 x.2) ?_ ?_ ?_
  · intro x; rfl
  · intro n x; rfl
  intro J0 x
  kernel_rfl
theorem F_eq (call : Cl) (k : Nat) (a0 : (List Bool)) : bodyK E call n_laws_toBoolS k s_laws_toBoolS (a0, ()) = F call k a0 := by
  exact Eq.trans (b := Fm call k (fun a0 v0_1_ v0_2_ => siteI E call n_laws_toBoolS k s_laws_toBoolS (a0, ()) (fun _ _ => none) 0 k (S0 a0 v0_1_ v0_2_)) a0) (by kernel_rfl) (congrArg (fun l => Fm call k l a0) (funext fun a0 => funext fun v0_1_ => funext fun v0_2_ => L0_eq call k (fun _ _ => none) a0 k (v0_1_, v0_2_)))
end laws_toBoolS
/-! #### laws_eqBoolS -/
namespace laws_eqBoolS
abbrev R := ((Bool × Unit) × Unit)
def S0 (a0 : (List Bool)) (a1 : (List Bool)) (v0_2 : Int) : St := ⟨mkS 26 [(0, .v (.slc .bool) (a0)), (1, .v (.slc .bool) (a1)), (5, .v (.int .i64) v0_2)], []⟩
def step0 (call : Cl) (k : Nat) (a0 : (List Bool)) (a1 : (List Bool))   (r0 : (Int) → Option R) (v0_2 : Int) : Option R :=
    bif decide (v0_2 < (↑a0.length : Int)) then
    bif decide ((0 : Int) ≤ v0_2) then
      (lget a0 v0_2.toNat).bind fun (y0 : Bool) =>
        bif decide ((0 : Int) ≤ v0_2) then
          (lget a1 v0_2.toNat).bind fun (y1 : Bool) =>
            bif !y0 == y1 then some ((false, ()), ()) else r0 (IntKind.i64.wrap (v0_2 + (1 : Int)))
        else none
    else none
  else some ((true, ()), ())
def L0 (call : Cl) (k : Nat) (a0 : (List Bool)) (a1 : (List Bool))  : Nat → (Int) → Option R
    | 0, _ => none
    | n + 1, v0_2 => step0 call k a0 a1   (L0 call k a0 a1  n) v0_2
def Fm (call : Cl) (k : Nat) (l0 : ((List Bool)) → ((List Bool)) → (Int) → Option R) (a0 : (List Bool)) (a1 : (List Bool)) : Option R :=
    bif (↑a0.length : Int) != (↑a1.length : Int) then some ((false, ()), ()) else l0 a0 a1 (0 : Int)
def F (call : Cl) (k : Nat) (a0 : (List Bool)) (a1 : (List Bool)) : Option R := Fm call k (fun a0_ a1_ v0_2_ => L0 call k a0_ a1_ k v0_2_) a0 a1
theorem L0_eq (call : Cl) (k : Nat) (J : Nat → St → Option R) (a0 : (List Bool)) (a1 : (List Bool)) : ∀ (n : Nat) (x : (Int)), siteI E call n_laws_eqBoolS k s_laws_eqBoolS (a0, a1, ()) J 0 n (S0 a0 a1 x) = L0 call k a0 a1  n x := by
  refine loop_eq (E := E) (call := call) (f := n_laws_eqBoolS) (k := k) (s := s_laws_eqBoolS) (l := (a0, a1, ())) (J := J) (i := 0) (X := (Int)) (fun x => S0 a0 a1 x) (fun n x => L0 call k a0 a1  n x) (fun r x => step0 call k a0 a1   (fun v0_2 => r v0_2) x) ?_ ?_ ?_
  · intro x; rfl
  · intro n x; rfl
  intro J0 x
  kernel_rfl
theorem F_eq (call : Cl) (k : Nat) (a0 : (List Bool)) (a1 : (List Bool)) : bodyK E call n_laws_eqBoolS k s_laws_eqBoolS (a0, a1, ()) = F call k a0 a1 := by
  exact Eq.trans (b := Fm call k (fun a0 a1 v0_2_ => siteI E call n_laws_eqBoolS k s_laws_eqBoolS (a0, a1, ()) (fun _ _ => none) 0 k (S0 a0 a1 v0_2_)) a0 a1) (by kernel_rfl) (congrArg (fun l => Fm call k l a0 a1) (funext fun a0 => funext fun a1 => funext fun v0_2_ => L0_eq call k (fun _ _ => none) a0 a1 k v0_2_))
end laws_eqBoolS
/-! #### laws_markBoolS -/
namespace laws_markBoolS
abbrev R := ((Int × Unit) × ((List Bool) × Unit))
def S0 (v0_0 : Int) (v0_1 : Int) (v0_2 : (List Bool)) : St := ⟨mkS 21 [(0, .ref [0]), (1, .v (.int .i64) v0_0), (5, .v (.int .i64) v0_1)], [([0], .list 4 .bool v0_2)]⟩
def step0 (call : Cl) (k : Nat)    (r0 : (Int) → (Int) → ((List Bool)) → Option R) (v0_0 : Int) (v0_1 : Int) (v0_2 : (List Bool)) : Option R :=
    bif decide (v0_1 < (↑v0_2.length : Int)) then
    bif decide ((0 : Int) ≤ v0_1) && decide (v0_1.toNat < v0_2.length) then
      (lget v0_2 v0_1.toNat).bind fun (y0 : Bool) =>
        r0 (IntKind.i64.wrap (v0_0 + (1 : Int))) (IntKind.i64.wrap (v0_1 + (1 : Int)))
          (v0_2.set v0_1.toNat (v0_0.tmod (3 : Int) == (0 : Int)))
    else none
  else some ((v0_0, ()), v0_2, ())
def L0 (call : Cl) (k : Nat)   : Nat → (Int) → (Int) → ((List Bool)) → Option R
    | 0, _, _, _ => none
    | n + 1, v0_0, v0_1, v0_2 => step0 call k    (L0 call k   n) v0_0 v0_1 v0_2
def Fm (call : Cl) (k : Nat) (l0 : (Int) → (Int) → ((List Bool)) → Option R) (a0 : (List Bool)) (a1 : Int) : Option R :=
    l0 a1 (0 : Int) a0
def F (call : Cl) (k : Nat) (a0 : (List Bool)) (a1 : Int) : Option R := Fm call k (fun v0_0_ v0_1_ v0_2_ => L0 call k  k v0_0_ v0_1_ v0_2_) a0 a1
theorem L0_eq (call : Cl) (k : Nat) (J : Nat → St → Option R) (a0 : (List Bool)) (a1 : Int) : ∀ (n : Nat) (x : Y0_1), siteI E call n_laws_markBoolS k s_laws_markBoolS (a0, a1, ()) J 0 n (S0  x.1 x.2.1 x.2.2) = L0 call k   n x.1 x.2.1 x.2.2 := by
  refine loop_eq (E := E) (call := call) (f := n_laws_markBoolS) (k := k) (s := s_laws_markBoolS) (l := (a0, a1, ())) (J := J) (i := 0) (X := Y0_1) (fun x => S0  x.1 x.2.1 x.2.2) (fun n x => L0 call k   n x.1 x.2.1 x.2.2) (fun r x => step0 call k    (fun v0_0 v0_1 v0_2 => r (v0_0, v0_1, v0_2)) x.1 x.2.1 x.2.2) ?_ ?_ ?_
  · intro x; rfl
  · intro n x; rfl
  intro J0 x
  kernel_rfl
theorem F_eq (call : Cl) (k : Nat) (a0 : (List Bool)) (a1 : Int) : bodyK E call n_laws_markBoolS k s_laws_markBoolS (a0, a1, ()) = F call k a0 a1 := by
  exact Eq.trans (b := Fm call k (fun v0_0_ v0_1_ v0_2_ => siteI E call n_laws_markBoolS k s_laws_markBoolS (a0, a1, ()) (fun _ _ => none) 0 k (S0 v0_0_ v0_1_ v0_2_)) a0 a1) (by kernel_rfl) (congrArg (fun l => Fm call k l a0 a1) (funext fun v0_0_ => funext fun v0_1_ => funext fun v0_2_ => L0_eq call k (fun _ _ => none) a0 a1 k (v0_0_, v0_1_, v0_2_)))
end laws_markBoolS
/-! #### laws_heldBoolS -/
namespace laws_heldBoolS
abbrev R := ((Int × Unit) × Unit)
def S0 (a0 : (List Bool)) (v0_1 : Int) (v0_2 : Int) : St := ⟨mkS 23 [(0, .v (.slc .bool) (a0)), (1, .v (.int .i64) v0_1), (5, .v (.int .i64) v0_2)], []⟩
def step0 (call : Cl) (k : Nat) (a0 : (List Bool))   (r0 : (Int) → (Int) → Option R) (v0_1 : Int) (v0_2 : Int) : Option R :=
    bif decide (v0_2 < (↑a0.length : Int)) then
    bif decide ((0 : Int) ≤ v0_2) then
      (lget a0 v0_2.toNat).bind fun (y0 : Bool) =>
        bif !y0 == (v0_1.tmod (3 : Int) == (0 : Int)) then some (((-1 : Int), ()), ())
        else r0 (IntKind.i64.wrap (v0_1 + (1 : Int))) (IntKind.i64.wrap (v0_2 + (1 : Int)))
    else none
  else some ((v0_1, ()), ())
def L0 (call : Cl) (k : Nat) (a0 : (List Bool))  : Nat → (Int) → (Int) → Option R
    | 0, _, _ => none
    | n + 1, v0_1, v0_2 => step0 call k a0   (L0 call k a0  n) v0_1 v0_2
def Fm (call : Cl) (k : Nat) (l0 : ((List Bool)) → (Int) → (Int) → Option R) (a0 : (List Bool)) (a1 : Int) : Option R :=
    l0 a0 a1 (0 : Int)
def F (call : Cl) (k : Nat) (a0 : (List Bool)) (a1 : Int) : Option R := Fm call k (fun a0_ v0_1_ v0_2_ => L0 call k a0_ k v0_1_ v0_2_) a0 a1
theorem L0_eq (call : Cl) (k : Nat) (J : Nat → St → Option R) (a0 : (List Bool)) (a1 : Int) : ∀ (n : Nat) (x : Y0_3), siteI E call n_laws_heldBoolS k s_laws_heldBoolS (a0, a1, ()) J 0 n (S0 a0 x.1 x.2) = L0 call k a0  n x.1 x.2 := by
  refine loop_eq (E := E) (call := call) (f := n_laws_heldBoolS) (k := k) (s := s_laws_heldBoolS) (l := (a0, a1, ())) (J := J) (i := 0) (X := Y0_3) (fun x => S0 a0 x.1 x.2) (fun n x => L0 call k a0  n x.1 x.2) (fun r x => step0 call k a0   (fun v0_1 v0_2 => r (v0_1, v0_2)) x.1 x.2) ?_ ?_ ?_
  · intro x; rfl
  · intro n x; rfl
  intro J0 x
  kernel_rfl
theorem F_eq (call : Cl) (k : Nat) (a0 : (List Bool)) (a1 : Int) : bodyK E call n_laws_heldBoolS k s_laws_heldBoolS (a0, a1, ()) = F call k a0 a1 := by
  exact Eq.trans (b := Fm call k (fun a0 v0_1_ v0_2_ => siteI E call n_laws_heldBoolS k s_laws_heldBoolS (a0, a1, ()) (fun _ _ => none) 0 k (S0 a0 v0_1_ v0_2_)) a0 a1) (by kernel_rfl) (congrArg (fun l => Fm call k l a0 a1) (funext fun a0 => funext fun v0_1_ => funext fun v0_2_ => L0_eq call k (fun _ _ => none) a0 a1 k (v0_1_, v0_2_)))
end laws_heldBoolS
/-! #### spec_l1In -/
namespace spec_l1In
abbrev R := ((Bool × Unit) × Unit)
def Fm (call : Cl) (k : Nat)  (a0 : Int) (a1 : Int) (a2 : Int) : Option R :=
    bif decide (a0 ≥ a1) then some ((decide (a0 ≤ a2), ()), ()) else some ((false, ()), ())
def F (call : Cl) (k : Nat) (a0 : Int) (a1 : Int) (a2 : Int) : Option R := Fm call k  a0 a1 a2
theorem F_eq (call : Cl) (k : Nat) (a0 : Int) (a1 : Int) (a2 : Int) : bodyK E call n_spec_l1In k s_spec_l1In (a0, a1, a2, ()) = F call k a0 a1 a2 := by
  kernel_rfl
end spec_l1In
/-! #### spec_l2In -/
namespace spec_l2In
abbrev R := ((Bool × Unit) × Unit)
def S0 (a0 : (List Int)) (a1 : Int) (v0_2 : Int) : St := ⟨mkS 18 [(0, .v (.slc (.int .i64)) (a0)), (1, .v (.int .i64) (a1)), (5, .v (.int .i64) v0_2)], []⟩
def step0 (call : Cl) (k : Nat) (a0 : (List Int)) (a1 : Int)   (r0 : (Int) → Option R) (v0_2 : Int) : Option R :=
    bif decide (v0_2 < (↑a0.length : Int)) then
    bif decide ((0 : Int) ≤ v0_2) then
      (lget a0 v0_2.toNat).bind fun (y0 : Int) =>
        bif y0 == a1 then some ((true, ()), ()) else r0 (IntKind.i64.wrap (v0_2 + (1 : Int)))
    else none
  else some ((false, ()), ())
def L0 (call : Cl) (k : Nat) (a0 : (List Int)) (a1 : Int)  : Nat → (Int) → Option R
    | 0, _ => none
    | n + 1, v0_2 => step0 call k a0 a1   (L0 call k a0 a1  n) v0_2
def Fm (call : Cl) (k : Nat) (l0 : ((List Int)) → (Int) → (Int) → Option R) (a0 : (List Int)) (a1 : Int) : Option R :=
    l0 a0 a1 (0 : Int)
def F (call : Cl) (k : Nat) (a0 : (List Int)) (a1 : Int) : Option R := Fm call k (fun a0_ a1_ v0_2_ => L0 call k a0_ a1_ k v0_2_) a0 a1
theorem L0_eq (call : Cl) (k : Nat) (J : Nat → St → Option R) (a0 : (List Int)) (a1 : Int) : ∀ (n : Nat) (x : (Int)), siteI E call n_spec_l2In k s_spec_l2In (a0, a1, ()) J 0 n (S0 a0 a1 x) = L0 call k a0 a1  n x := by
  refine loop_eq (E := E) (call := call) (f := n_spec_l2In) (k := k) (s := s_spec_l2In) (l := (a0, a1, ())) (J := J) (i := 0) (X := (Int)) (fun x => S0 a0 a1 x) (fun n x => L0 call k a0 a1  n x) (fun r x => step0 call k a0 a1   (fun v0_2 => r v0_2) x) ?_ ?_ ?_
  · intro x; rfl
  · intro n x; rfl
  intro J0 x
  kernel_rfl
theorem F_eq (call : Cl) (k : Nat) (a0 : (List Int)) (a1 : Int) : bodyK E call n_spec_l2In k s_spec_l2In (a0, a1, ()) = F call k a0 a1 := by
  exact Eq.trans (b := Fm call k (fun a0 a1 v0_2_ => siteI E call n_spec_l2In k s_spec_l2In (a0, a1, ()) (fun _ _ => none) 0 k (S0 a0 a1 v0_2_)) a0 a1) (by kernel_rfl) (congrArg (fun l => Fm call k l a0 a1) (funext fun a0 => funext fun a1 => funext fun v0_2_ => L0_eq call k (fun _ _ => none) a0 a1 k v0_2_))
end spec_l2In
/-! #### spec_l2With -/
namespace spec_l2With
abbrev R := (((List Int) × Unit) × Unit)
def S0 (a0 : (List Int)) (a1 : Int) (v0_2 : Bool) (v0_3 : Int) (v0_4 : (List Int)) : St := ⟨mkS 49 [(0, .v (.slc (.int .i64)) (a0)), (1, .v (.int .i64) (a1)), (5, .ref [5]), (6, .v .bool v0_2), (7, .v (.int .i64) v0_3)], [([5], .list 2 (.int .i64) v0_4)]⟩
def step0 (call : Cl) (k : Nat) (a0 : (List Int)) (a1 : Int)   (r0 : (Bool) → (Int) → ((List Int)) → Option R) (v0_2 : Bool) (v0_3 : Int) (v0_4 : (List Int)) : Option R :=
    bif decide (v0_3 < (↑a0.length : Int)) then
    bif !v0_2 then
      bif decide ((0 : Int) ≤ v0_3) then
        (lget a0 v0_3.toNat).bind fun (y1 : Int) =>
          bif decide (a1 < y1) then
            bif decide ((v0_4.length + [a1].length) * ti2.bytes ≤ (140737488355328 : Nat)) then
              bif decide ((0 : Int) ≤ v0_3) then
                (lget a0 v0_3.toNat).bind fun (y2 : Int) =>
                  bif decide (((v0_4 ++ [a1]).length + [y2].length) * ti2.bytes ≤ (140737488355328 : Nat)) then
                    r0 true (IntKind.i64.wrap (v0_3 + (1 : Int))) (v0_4 ++ [a1] ++ [y2])
                  else none
              else none
            else none
          else
            bif decide ((0 : Int) ≤ v0_3) then
              (lget a0 v0_3.toNat).bind fun (y3 : Int) =>
                bif decide ((v0_4.length + [y3].length) * ti2.bytes ≤ (140737488355328 : Nat)) then
                  r0 v0_2 (IntKind.i64.wrap (v0_3 + (1 : Int))) (v0_4 ++ [y3])
                else none
            else none
      else none
    else
      bif decide ((0 : Int) ≤ v0_3) then
        (lget a0 v0_3.toNat).bind fun (y4 : Int) =>
          bif decide ((v0_4.length + [y4].length) * ti2.bytes ≤ (140737488355328 : Nat)) then
            r0 v0_2 (IntKind.i64.wrap (v0_3 + (1 : Int))) (v0_4 ++ [y4])
          else none
      else none
  else
    bif !v0_2 then
      bif decide ((v0_4.length + [a1].length) * ti2.bytes ≤ (140737488355328 : Nat)) then some ((v0_4 ++ [a1], ()), ())
      else none
    else some ((v0_4, ()), ())
def L0 (call : Cl) (k : Nat) (a0 : (List Int)) (a1 : Int)  : Nat → (Bool) → (Int) → ((List Int)) → Option R
    | 0, _, _, _ => none
    | n + 1, v0_2, v0_3, v0_4 => step0 call k a0 a1   (L0 call k a0 a1  n) v0_2 v0_3 v0_4
def Fm (call : Cl) (k : Nat) (l0 : ((List Int)) → (Int) → (Bool) → (Int) → ((List Int)) → Option R) (a0 : (List Int)) (a1 : Int) : Option R :=
    (call (137 : Nat) s_spec_l2In (a0, a1, ())).bind fun (y0 : (Bool × PUnit) × PUnit) =>
    bif y0.fst.fst then
      bif decide (((0 : Nat) + a0.length) * ti2.bytes ≤ (140737488355328 : Nat)) then some (([] ++ a0, ()), ()) else none
    else l0 a0 a1 false (0 : Int) []
def F (call : Cl) (k : Nat) (a0 : (List Int)) (a1 : Int) : Option R := Fm call k (fun a0_ a1_ v0_2_ v0_3_ v0_4_ => L0 call k a0_ a1_ k v0_2_ v0_3_ v0_4_) a0 a1
theorem L0_eq (call : Cl) (k : Nat) (J : Nat → St → Option R) (a0 : (List Int)) (a1 : Int) : ∀ (n : Nat) (x : ((Bool) × (Int) × ((List Int)))), siteI E call n_spec_l2With k s_spec_l2With (a0, a1, ()) J 0 n (S0 a0 a1 x.1 x.2.1 x.2.2) = L0 call k a0 a1  n x.1 x.2.1 x.2.2 := by
  refine loop_eq (E := E) (call := call) (f := n_spec_l2With) (k := k) (s := s_spec_l2With) (l := (a0, a1, ())) (J := J) (i := 0) (X := ((Bool) × (Int) × ((List Int)))) (fun x => S0 a0 a1 x.1 x.2.1 x.2.2) (fun n x => L0 call k a0 a1  n x.1 x.2.1 x.2.2) (fun r x => step0 call k a0 a1   (fun v0_2 v0_3 v0_4 => r (v0_2, v0_3, v0_4)) x.1 x.2.1 x.2.2) ?_ ?_ ?_
  · intro x; rfl
  · intro n x; rfl
  intro J0 x
  kernel_rfl
theorem F_eq (call : Cl) (k : Nat) (a0 : (List Int)) (a1 : Int) : bodyK E call n_spec_l2With k s_spec_l2With (a0, a1, ()) = F call k a0 a1 := by
  exact Eq.trans (b := Fm call k (fun a0 a1 v0_2_ v0_3_ v0_4_ => siteI E call n_spec_l2With k s_spec_l2With (a0, a1, ()) (fun _ _ => none) 0 k (S0 a0 a1 v0_2_ v0_3_ v0_4_)) a0 a1) (by kernel_rfl) (congrArg (fun l => Fm call k l a0 a1) (funext fun a0 => funext fun a1 => funext fun v0_2_ => funext fun v0_3_ => funext fun v0_4_ => L0_eq call k (fun _ _ => none) a0 a1 k (v0_2_, v0_3_, v0_4_)))
end spec_l2With
/-! #### spec_l14Abs -/
namespace spec_l14Abs
abbrev R := ((Int × Unit) × Unit)
def Fm (call : Cl) (k : Nat)  (a0 : Int) : Option R :=
    bif decide (a0 < (0 : Int)) then some ((IntKind.i64.wrap ((0 : Int) - a0), ()), ()) else some ((a0, ()), ())
def F (call : Cl) (k : Nat) (a0 : Int) : Option R := Fm call k  a0
theorem F_eq (call : Cl) (k : Nat) (a0 : Int) : bodyK E call n_spec_l14Abs k s_spec_l14Abs (a0, ()) = F call k a0 := by
  kernel_rfl
end spec_l14Abs
/-! #### impl_variableOf -/
namespace impl_variableOf
abbrev R := ((Int × Unit) × Unit)
def Fm (call : Cl) (k : Nat)  (a0 : Int) : Option R :=
    some ((max a0 (IntKind.i64.wrap ((0 : Int) - a0)), ()), ())
def F (call : Cl) (k : Nat) (a0 : Int) : Option R := Fm call k  a0
theorem F_eq (call : Cl) (k : Nat) (a0 : Int) : bodyK E call n_impl_variableOf k s_impl_variableOf (a0, ()) = F call k a0 := by
  kernel_rfl
end impl_variableOf
/-! #### spec_l5Bit -/
namespace spec_l5Bit
abbrev R := ((Int × Unit) × Unit)
def Fm (call : Cl) (k : Nat)  (a0 : Bool) : Option R :=
    bif a0 then some (((1 : Int), ()), ()) else some (((0 : Int), ()), ())
def F (call : Cl) (k : Nat) (a0 : Bool) : Option R := Fm call k  a0
theorem F_eq (call : Cl) (k : Nat) (a0 : Bool) : bodyK E call n_spec_l5Bit k s_spec_l5Bit (a0, ()) = F call k a0 := by
  kernel_rfl
end spec_l5Bit
/-! #### impl_truth -/
namespace impl_truth
abbrev R := ((Int × Unit) × Unit)
def Fm (call : Cl) (k : Nat)  (a0 : Bool) : Option R :=
    bif a0 then some (((1 : Int), ()), ()) else some (((0 : Int), ()), ())
def F (call : Cl) (k : Nat) (a0 : Bool) : Option R := Fm call k  a0
theorem F_eq (call : Cl) (k : Nat) (a0 : Bool) : bodyK E call n_impl_truth k s_impl_truth (a0, ()) = F call k a0 := by
  kernel_rfl
end impl_truth
/-! #### spec_l13Size -/
namespace spec_l13Size
abbrev R := ((Int × Unit) × Unit)
def S0 (v0_0 : Int) (v0_1 : Int) : St := ⟨mkS 11 [(0, .v (.int .i64) v0_0), (3, .v (.int .i64) v0_1)], []⟩
def step0 (call : Cl) (k : Nat)    (r0 : (Int) → (Int) → Option R) (v0_0 : Int) (v0_1 : Int) : Option R :=
    bif decide (v0_0 > (0 : Int)) then r0 (IntKind.i64.wrap (v0_0 - (1 : Int))) (IntKind.i64.wrap (v0_1 * (2 : Int)))
  else some ((v0_1, ()), ())
def L0 (call : Cl) (k : Nat)   : Nat → (Int) → (Int) → Option R
    | 0, _, _ => none
    | n + 1, v0_0, v0_1 => step0 call k    (L0 call k   n) v0_0 v0_1
def Fm (call : Cl) (k : Nat) (l0 : (Int) → (Int) → Option R) (a0 : Int) : Option R :=
    l0 a0 (1 : Int)
def F (call : Cl) (k : Nat) (a0 : Int) : Option R := Fm call k (fun v0_0_ v0_1_ => L0 call k  k v0_0_ v0_1_) a0
theorem L0_eq (call : Cl) (k : Nat) (J : Nat → St → Option R) (a0 : Int) : ∀ (n : Nat) (x : Y0_3), siteI E call n_spec_l13Size k s_spec_l13Size (a0, ()) J 0 n (S0  x.1 x.2) = L0 call k   n x.1 x.2 := by
  refine loop_eq (E := E) (call := call) (f := n_spec_l13Size) (k := k) (s := s_spec_l13Size) (l := (a0, ())) (J := J) (i := 0) (X := Y0_3) (fun x => S0  x.1 x.2) (fun n x => L0 call k   n x.1 x.2) (fun r x => step0 call k    (fun v0_0 v0_1 => r (v0_0, v0_1)) x.1 x.2) ?_ ?_ ?_
  · intro x; rfl
  · intro n x; rfl
  intro J0 x
  kernel_rfl
theorem F_eq (call : Cl) (k : Nat) (a0 : Int) : bodyK E call n_spec_l13Size k s_spec_l13Size (a0, ()) = F call k a0 := by
  exact Eq.trans (b := Fm call k (fun v0_0_ v0_1_ => siteI E call n_spec_l13Size k s_spec_l13Size (a0, ()) (fun _ _ => none) 0 k (S0 v0_0_ v0_1_)) a0) (by kernel_rfl) (congrArg (fun l => Fm call k l a0) (funext fun v0_0_ => funext fun v0_1_ => L0_eq call k (fun _ _ => none) a0 k (v0_0_, v0_1_)))
end spec_l13Size
/-! #### spec_l13Bits -/
namespace spec_l13Bits
abbrev R := (((List Bool) × Unit) × Unit)
def S0 (v0_0 : Int) (v0_1 : Int) (v0_2 : (List Bool)) : St := ⟨mkS 24 [(1, .v (.int .i64) v0_0), (5, .ref [5]), (6, .v (.int .i64) v0_1)], [([5], .list 4 .bool v0_2)]⟩
def step0 (call : Cl) (k : Nat)    (r0 : (Int) → (Int) → ((List Bool)) → Option R) (v0_0 : Int) (v0_1 : Int) (v0_2 : (List Bool)) : Option R :=
    bif decide (v0_1 ≥ (0 : Int)) then
    bif decide ((0 : Int) ≤ v0_1) && decide (v0_1.toNat < v0_2.length) then
      (lget v0_2 v0_1.toNat).bind fun (y0 : Bool) =>
        r0 (IntKind.i64.wrap (v0_0.tdiv (2 : Int))) (IntKind.i64.wrap (v0_1 - (1 : Int)))
          (v0_2.set v0_1.toNat (v0_0.tmod (2 : Int) == (1 : Int)))
    else none
  else some ((v0_2, ()), ())
def L0 (call : Cl) (k : Nat)   : Nat → (Int) → (Int) → ((List Bool)) → Option R
    | 0, _, _, _ => none
    | n + 1, v0_0, v0_1, v0_2 => step0 call k    (L0 call k   n) v0_0 v0_1 v0_2
def Fm (call : Cl) (k : Nat) (l0 : (Int) → (Int) → ((List Bool)) → Option R) (a0 : Int) (a1 : Int) : Option R :=
    bif decide (a0 = a0) && decide ((0 : Int) ≤ a0) && decide (a0 * (↑ti4.bytes : Int) ≤ (281474976710656 : Int)) then
    l0 a1 (IntKind.i64.wrap (a0 - (1 : Int))) (List.replicate a0.toNat false)
  else none
def F (call : Cl) (k : Nat) (a0 : Int) (a1 : Int) : Option R := Fm call k (fun v0_0_ v0_1_ v0_2_ => L0 call k  k v0_0_ v0_1_ v0_2_) a0 a1
theorem L0_eq (call : Cl) (k : Nat) (J : Nat → St → Option R) (a0 : Int) (a1 : Int) : ∀ (n : Nat) (x : Y0_1), siteI E call n_spec_l13Bits k s_spec_l13Bits (a0, a1, ()) J 0 n (S0  x.1 x.2.1 x.2.2) = L0 call k   n x.1 x.2.1 x.2.2 := by
  refine loop_eq (E := E) (call := call) (f := n_spec_l13Bits) (k := k) (s := s_spec_l13Bits) (l := (a0, a1, ())) (J := J) (i := 0) (X := Y0_1) (fun x => S0  x.1 x.2.1 x.2.2) (fun n x => L0 call k   n x.1 x.2.1 x.2.2) (fun r x => step0 call k    (fun v0_0 v0_1 v0_2 => r (v0_0, v0_1, v0_2)) x.1 x.2.1 x.2.2) ?_ ?_ ?_
  · intro x; rfl
  · intro n x; rfl
  intro J0 x
  kernel_rfl
theorem F_eq (call : Cl) (k : Nat) (a0 : Int) (a1 : Int) : bodyK E call n_spec_l13Bits k s_spec_l13Bits (a0, a1, ()) = F call k a0 a1 := by
  exact Eq.trans (b := Fm call k (fun v0_0_ v0_1_ v0_2_ => siteI E call n_spec_l13Bits k s_spec_l13Bits (a0, a1, ()) (fun _ _ => none) 0 k (S0 v0_0_ v0_1_ v0_2_)) a0 a1) (by kernel_rfl) (congrArg (fun l => Fm call k l a0 a1) (funext fun v0_0_ => funext fun v0_1_ => funext fun v0_2_ => L0_eq call k (fun _ _ => none) a0 a1 k (v0_0_, v0_1_, v0_2_)))
end spec_l13Bits
end Go.Proofs.Ytcmgjdmhemfecaa.Pf
