/- Printed texts: what the reading of these functions is. No condition. -/
import Derived.Test.YtbalepejjjmioaaDoorPvEnv
import Derived.KernelRfl
set_option linter.unusedVariables false
namespace Go.Proofs.YtbalepejjjmioaaDoor.Pf
open Go Go.Pv
abbrev Y1_0 := ((List Int) × (Int × (Int × Unit)))
/-! #### laws_szInt64S -/
namespace laws_szInt64S
abbrev R := ((Int × Unit) × Unit)
def Fm (call : Cl) (k : Nat)  (a0 : (List Int)) (a1 : Int) : Option R :=
    bif decide (IntKind.i64.wrap (a1 - (↑a0.length : Int)) < (0 : Int)) then some (((-1 : Int), ()), ())
  else some ((IntKind.i64.wrap (a1 - (↑a0.length : Int)), ()), ())
def F (call : Cl) (k : Nat) (a0 : (List Int)) (a1 : Int) : Option R := Fm call k  a0 a1
theorem F_eq (call : Cl) (k : Nat) (a0 : (List Int)) (a1 : Int) : bodyK E call n_laws_szInt64S k s_laws_szInt64S (a0, a1, ()) = F call k a0 a1 := by
  kernel_rfl
end laws_szInt64S
/-! #### laws_toInt64S -/
namespace laws_toInt64S
abbrev R := (((List Int) × Unit) × Unit)
def S0 (a0 : (List Int)) (v0_1 : Int) (v0_2 : (List Int)) : St := ⟨mkS 22 [(0, .v (.slc (.int .i64)) (a0)), (3, .ref [3]), (4, .v (.int .i64) v0_1)], [([3], .list 2 (.int .i64) v0_2)]⟩
def step0 (call : Cl) (k : Nat) (a0 : (List Int))   (r0 : (Int) → ((List Int)) → Option R) (v0_1 : Int) (v0_2 : (List Int)) : Option R :=
    bif decide (v0_1 < (↑a0.length : Int)) then
    bif decide ((0 : Int) ≤ v0_1) then
      (lget a0 v0_1.toNat).bind fun (y0 : Int) =>
        bif decide ((0 : Int) ≤ v0_1) && decide (v0_1.toNat < v0_2.length) then
          (lget v0_2 v0_1.toNat).bind fun (y1 : Int) => r0 (IntKind.i64.wrap (v0_1 + (1 : Int))) (v0_2.set v0_1.toNat y0)
        else none
    else none
  else some ((v0_2, ()), ())
def L0 (call : Cl) (k : Nat) (a0 : (List Int))  : Nat → (Int) → ((List Int)) → Option R
    | 0, _, _ => none
    | n + 1, v0_1, v0_2 => step0 call k a0   (L0 call k a0  n) v0_1 v0_2
def Fm (call : Cl) (k : Nat) (l0 : ((List Int)) → (Int) → ((List Int)) → Option R) (a0 : (List Int)) : Option R :=
    bif
      decide ((↑a0.length : Int) = (↑a0.length : Int)) && decide ((0 : Int) ≤ (↑a0.length : Int)) &&
        decide ((↑a0.length : Int) * (↑ti2.bytes : Int) ≤ (281474976710656 : Int)) then
    l0 a0 (0 : Int) (List.replicate (↑a0.length : Int).toNat (Int.ofNat (nat_lit 0)))
  else none
def F (call : Cl) (k : Nat) (a0 : (List Int)) : Option R := Fm call k (fun a0_ v0_1_ v0_2_ => L0 call k a0_ k v0_1_ v0_2_) a0
theorem L0_eq (call : Cl) (k : Nat) (J : Nat → St → Option R) (a0 : (List Int)) : ∀ (n : Nat) (x : ((Int) × ((List Int)))), siteI E call n_laws_toInt64S k s_laws_toInt64S (a0, ()) J 0 n (S0 a0 x.1 x.2) = L0 call k a0  n x.1 x.2 := by
  refine loop_eq (E := E) (call := call) (f := n_laws_toInt64S) (k := k) (s := s_laws_toInt64S) (l := (a0, ())) (J := J) (i := 0) (X := ((Int) × ((List Int)))) (fun x => S0 a0 x.1 x.2) (fun n x => L0 call k a0  n x.1 x.2) (fun r x => step0 call k a0   (fun v0_1 v0_2 => r (v0_1, v0_2)) x.1 x.2) ?_ ?_ ?_
  · intro x; rfl
  · intro n x; rfl
  intro J0 x
  kernel_rfl
theorem F_eq (call : Cl) (k : Nat) (a0 : (List Int)) : bodyK E call n_laws_toInt64S k s_laws_toInt64S (a0, ()) = F call k a0 := by
  exact Eq.trans (b := Fm call k (fun a0 v0_1_ v0_2_ => siteI E call n_laws_toInt64S k s_laws_toInt64S (a0, ()) (fun _ _ => none) 0 k (S0 a0 v0_1_ v0_2_)) a0) (by kernel_rfl) (congrArg (fun l => Fm call k l a0) (funext fun a0 => funext fun v0_1_ => funext fun v0_2_ => L0_eq call k (fun _ _ => none) a0 k (v0_1_, v0_2_)))
end laws_toInt64S
/-! #### laws_eqInt64S -/
namespace laws_eqInt64S
abbrev R := ((Bool × Unit) × Unit)
def S0 (a0 : (List Int)) (a1 : (List Int)) (v0_2 : Int) : St := ⟨mkS 26 [(0, .v (.slc (.int .i64)) (a0)), (1, .v (.slc (.int .i64)) (a1)), (5, .v (.int .i64) v0_2)], []⟩
def step0 (call : Cl) (k : Nat) (a0 : (List Int)) (a1 : (List Int))   (r0 : (Int) → Option R) (v0_2 : Int) : Option R :=
    bif decide (v0_2 < (↑a0.length : Int)) then
    bif decide ((0 : Int) ≤ v0_2) then
      (lget a0 v0_2.toNat).bind fun (y0 : Int) =>
        bif decide ((0 : Int) ≤ v0_2) then
          (lget a1 v0_2.toNat).bind fun (y1 : Int) =>
            bif y0 != y1 then some ((false, ()), ()) else r0 (IntKind.i64.wrap (v0_2 + (1 : Int)))
        else none
    else none
  else some ((true, ()), ())
def L0 (call : Cl) (k : Nat) (a0 : (List Int)) (a1 : (List Int))  : Nat → (Int) → Option R
    | 0, _ => none
    | n + 1, v0_2 => step0 call k a0 a1   (L0 call k a0 a1  n) v0_2
def Fm (call : Cl) (k : Nat) (l0 : ((List Int)) → ((List Int)) → (Int) → Option R) (a0 : (List Int)) (a1 : (List Int)) : Option R :=
    bif (↑a0.length : Int) != (↑a1.length : Int) then some ((false, ()), ()) else l0 a0 a1 (0 : Int)
def F (call : Cl) (k : Nat) (a0 : (List Int)) (a1 : (List Int)) : Option R := Fm call k (fun a0_ a1_ v0_2_ => L0 call k a0_ a1_ k v0_2_) a0 a1
theorem L0_eq (call : Cl) (k : Nat) (J : Nat → St → Option R) (a0 : (List Int)) (a1 : (List Int)) : ∀ (n : Nat) (x : (Int)), siteI E call n_laws_eqInt64S k s_laws_eqInt64S (a0, a1, ()) J 0 n (S0 a0 a1 x) = L0 call k a0 a1  n x := by
  refine loop_eq (E := E) (call := call) (f := n_laws_eqInt64S) (k := k) (s := s_laws_eqInt64S) (l := (a0, a1, ())) (J := J) (i := 0) (X := (Int)) (fun x => S0 a0 a1 x) (fun n x => L0 call k a0 a1  n x) (fun r x => step0 call k a0 a1   (fun v0_2 => r v0_2) x) ?_ ?_ ?_
  · intro x; rfl
  · intro n x; rfl
  intro J0 x
  kernel_rfl
theorem F_eq (call : Cl) (k : Nat) (a0 : (List Int)) (a1 : (List Int)) : bodyK E call n_laws_eqInt64S k s_laws_eqInt64S (a0, a1, ()) = F call k a0 a1 := by
  exact Eq.trans (b := Fm call k (fun a0 a1 v0_2_ => siteI E call n_laws_eqInt64S k s_laws_eqInt64S (a0, a1, ()) (fun _ _ => none) 0 k (S0 a0 a1 v0_2_)) a0 a1) (by kernel_rfl) (congrArg (fun l => Fm call k l a0 a1) (funext fun a0 => funext fun a1 => funext fun v0_2_ => L0_eq call k (fun _ _ => none) a0 a1 k v0_2_))
end laws_eqInt64S
/-! #### laws_szOutcome -/
namespace laws_szOutcome
abbrev R := ((Int × Unit) × Unit)
def Fm (call : Cl) (k : Nat)  (a0 : ((List Int) × (Int × (Int × Unit)))) (a1 : Int) : Option R :=
    (call (15 : Nat) s_laws_szInt64S (a0.fst, a1, ())).bind fun (y0 : (Int × PUnit) × PUnit) =>
    bif decide (y0.fst.fst < (0 : Int)) then some (((-1 : Int), ()), ()) else some ((y0.fst.fst, ()), ())
def F (call : Cl) (k : Nat) (a0 : ((List Int) × (Int × (Int × Unit)))) (a1 : Int) : Option R := Fm call k  a0 a1
theorem F_eq (call : Cl) (k : Nat) (a0 : Y1_0) (a1 : Int) : bodyK E call n_laws_szOutcome k s_laws_szOutcome (a0, a1, ()) = F call k a0 a1 := by
  kernel_rfl
end laws_szOutcome
/-! #### laws_toOutcome -/
namespace laws_toOutcome
abbrev R := ((((List Int) × (Int × (Int × Unit))) × Unit) × Unit)
def Fm (call : Cl) (k : Nat)  (a0 : ((List Int) × (Int × (Int × Unit)))) : Option R :=
    (call (18 : Nat) s_laws_toInt64S (a0.fst, ())).bind fun (y0 : (List Int × PUnit) × PUnit) =>
    some (((y0.fst.fst, a0.snd.fst, a0.snd.snd.fst, ()), ()), ())
def F (call : Cl) (k : Nat) (a0 : ((List Int) × (Int × (Int × Unit)))) : Option R := Fm call k  a0
theorem F_eq (call : Cl) (k : Nat) (a0 : Y1_0) : bodyK E call n_laws_toOutcome k s_laws_toOutcome (a0, ()) = F call k a0 := by
  kernel_rfl
end laws_toOutcome
/-! #### laws_eqOutcome -/
namespace laws_eqOutcome
abbrev R := ((Bool × Unit) × Unit)
def Fm (call : Cl) (k : Nat)  (a0 : ((List Int) × (Int × (Int × Unit)))) (a1 : ((List Int) × (Int × (Int × Unit)))) : Option R :=
    (call (21 : Nat) s_laws_eqInt64S (a0.fst, a1.fst, ())).bind fun (y0 : (Bool × PUnit) × PUnit) =>
    bif !y0.fst.fst then some ((false, ()), ())
    else
      bif a0.snd.fst != a1.snd.fst then some ((false, ()), ())
      else bif a0.snd.snd.fst != a1.snd.snd.fst then some ((false, ()), ()) else some ((true, ()), ())
def F (call : Cl) (k : Nat) (a0 : ((List Int) × (Int × (Int × Unit)))) (a1 : ((List Int) × (Int × (Int × Unit)))) : Option R := Fm call k  a0 a1
theorem F_eq (call : Cl) (k : Nat) (a0 : Y1_0) (a1 : Y1_0) : bodyK E call n_laws_eqOutcome k s_laws_eqOutcome (a0, a1, ()) = F call k a0 a1 := by
  kernel_rfl
end laws_eqOutcome
/-! #### laws_FnExactShowOutcome -/
namespace laws_FnExactShowOutcome
abbrev R := ((Bool × Unit) × Unit)
def Fm (call : Cl) (k : Nat)  (a0 : ((List Int) × (Int × (Int × Unit)))) : Option R :=
    (call (5 : Nat) s_laws_szOutcome (a0, (1048576 : Int), ())).bind fun (y0 : (Int × PUnit) × PUnit) =>
    bif decide (y0.fst.fst < (0 : Int)) then some ((true, ()), ())
    else
      (call (7 : Nat) s_laws_toOutcome (a0, ())).bind fun (y1 : ((List Int × Int × Int × PUnit) × PUnit) × PUnit) =>
        (call (6 : Nat) s_spec_ShowOutcome
              ((y1.fst.fst.fst, y1.fst.fst.snd.fst, y1.fst.fst.snd.snd.fst, y1.fst.fst.snd.snd.snd), ())).bind
          fun (y2 : (ByteArray × PUnit) × PUnit) =>
          (call (7 : Nat) s_laws_toOutcome (a0, ())).bind fun (y3 : ((List Int × Int × Int × PUnit) × PUnit) × PUnit) =>
            (call (8 : Nat) s_impl_ShowOutcome
                  ((y3.fst.fst.fst, y3.fst.fst.snd.fst, y3.fst.fst.snd.snd.fst, y3.fst.fst.snd.snd.snd), ())).bind
              fun (y4 : (ByteArray × PUnit) × PUnit) =>
              bif !ByteArray.toList y4.fst.fst == ByteArray.toList y2.fst.fst then some ((false, ()), ())
              else
                (call (7 : Nat) s_laws_toOutcome (a0, ())).bind
                  fun (y5 : ((List Int × Int × Int × PUnit) × PUnit) × PUnit) =>
                  (call (9 : Nat) s_laws_eqOutcome
                        ((y3.fst.fst.fst, y3.fst.fst.snd.fst, y3.fst.fst.snd.snd.fst, y3.fst.fst.snd.snd.snd),
                          (y5.fst.fst.fst, y5.fst.fst.snd.fst, y5.fst.fst.snd.snd.fst, y5.fst.fst.snd.snd.snd), ())).bind
                    fun (y6 : (Bool × PUnit) × PUnit) =>
                    bif !y6.fst.fst then some ((false, ()), ()) else some ((true, ()), ())
def F (call : Cl) (k : Nat) (a0 : ((List Int) × (Int × (Int × Unit)))) : Option R := Fm call k  a0
theorem F_eq (call : Cl) (k : Nat) (a0 : Y1_0) : bodyK E call n_laws_FnExactShowOutcome k s_laws_FnExactShowOutcome (a0, ()) = F call k a0 := by
  kernel_rfl
end laws_FnExactShowOutcome
end Go.Proofs.YtbalepejjjmioaaDoor.Pf
