/- Printed texts: what the reading of these functions is. No condition. -/
import Derived.Test.YtcmgjdmhemfecaaPvEnv
import Derived.KernelRfl
set_option linter.unusedVariables false
namespace Go.Proofs.Ytcmgjdmhemfecaa.Pf
open Go Go.Pv
abbrev Y3_0 := (Int × (Int × ((List (Int × (Int × (Int × Unit)))) × Unit)))
abbrev Y3_1 := (((List Bool) × Unit) × Unit)
abbrev Y3_2 := ((Int) × ((List Bool)))
/-! #### impl_placeOf -/
namespace impl_placeOf
abbrev R := ((Int × Unit) × Unit)
def S0 (a0 : (List Bool)) (v0_0 : Int) (v0_3 : Int) : St := ⟨mkS 19 [(3, .v (.int .i64) v0_0), (6, .v (.slc .bool) (a0)), (7, .v (.int .i64) ((↑a0.length : Int))), (8, .v (.int .i64) v0_3)], []⟩
def step0 (call : Cl) (k : Nat) (a0 : (List Bool))   (r0 : (Int) → (Int) → Option R) (v0_0 : Int) (v0_3 : Int) : Option R :=
    bif decide (v0_3 < (↑a0.length : Int)) then
    bif decide ((0 : Int) ≤ v0_3) then
      (lget a0 v0_3.toNat).bind fun (y0 : Bool) =>
        (call (93 : Nat) s_impl_truth (y0, ())).bind fun (y1 : (Int × PUnit) × PUnit) =>
          r0 (IntKind.i64.wrap (IntKind.i64.wrap ((2 : Int) * v0_0) + y1.fst.fst)) (IntKind.i64.wrap (v0_3 + (1 : Int)))
    else none
  else some ((v0_0, ()), ())
def L0 (call : Cl) (k : Nat) (a0 : (List Bool))  : Nat → (Int) → (Int) → Option R
    | 0, _, _ => none
    | n + 1, v0_0, v0_3 => step0 call k a0   (L0 call k a0  n) v0_0 v0_3
def Fm (call : Cl) (k : Nat) (l0 : ((List Bool)) → (Int) → (Int) → Option R) (a0 : (List Bool)) : Option R :=
    l0 a0 (0 : Int) (0 : Int)
def F (call : Cl) (k : Nat) (a0 : (List Bool)) : Option R := Fm call k (fun a0_ v0_0_ v0_3_ => L0 call k a0_ k v0_0_ v0_3_) a0
theorem L0_eq (call : Cl) (k : Nat) (J : Nat → St → Option R) (a0 : (List Bool)) : ∀ (n : Nat) (x : ((Int) × (Int))), siteI E call n_impl_placeOf k s_impl_placeOf (a0, ()) J 0 n (S0 a0 x.1 x.2) = L0 call k a0  n x.1 x.2 := by
  refine loop_eq (E := E) (call := call) (f := n_impl_placeOf) (k := k) (s := s_impl_placeOf) (l := (a0, ())) (J := J) (i := 0) (X := ((Int) × (Int))) (fun x => S0 a0 x.1 x.2) (fun n x => L0 call k a0  n x.1 x.2) (fun r x => step0 call k a0   (fun v0_0 v0_3 => r (v0_0, v0_3)) x.1 x.2) ?_ ?_ ?_
  · intro x; rfl
  · intro n x; rfl
  intro J0 x
  kernel_rfl
theorem F_eq (call : Cl) (k : Nat) (a0 : (List Bool)) : bodyK E call n_impl_placeOf k s_impl_placeOf (a0, ()) = F call k a0 := by
  exact Eq.trans (b := Fm call k (fun a0 v0_0_ v0_3_ => siteI E call n_impl_placeOf k s_impl_placeOf (a0, ()) (fun _ _ => none) 0 k (S0 a0 v0_0_ v0_3_)) a0) (by kernel_rfl) (congrArg (fun l => Fm call k l a0) (funext fun a0 => funext fun v0_0_ => funext fun v0_3_ => L0_eq call k (fun _ _ => none) a0 k (v0_0_, v0_3_)))
end impl_placeOf
/-! #### spec_YesIn -/
namespace spec_YesIn
abbrev R := ((Bool × Unit) × Unit)
def Fm (call : Cl) (k : Nat)  (a0 : (Int × (Int × ((List (Int × (Int × (Int × Unit)))) × Unit)))) (a1 : (List Bool)) : Option R :=
    (call (44 : Nat) s_spec_DiaOk (a0, ())).bind fun (y0 : (Bool × PUnit) × PUnit) =>
    bif y0.fst.fst then
      bif (↑a1.length : Int) == a0.fst then
        (call (120 : Nat) s_spec_l13Yes (a0, a0.snd.fst, a1, ())).bind fun (y1 : (Bool × PUnit) × PUnit) =>
          some ((y1.fst.fst, ()), ())
      else some ((false, ()), ())
    else some ((false, ()), ())
def F (call : Cl) (k : Nat) (a0 : (Int × (Int × ((List (Int × (Int × (Int × Unit)))) × Unit)))) (a1 : (List Bool)) : Option R := Fm call k  a0 a1
theorem F_eq (call : Cl) (k : Nat) (a0 : Y3_0) (a1 : (List Bool)) : bodyK E call n_spec_YesIn k s_spec_YesIn (a0, a1, ()) = F call k a0 a1 := by
  kernel_rfl
end spec_YesIn
/-! #### impl_YesIn -/
namespace impl_YesIn
abbrev R := ((Bool × Unit) × Unit)
def Fm (call : Cl) (k : Nat)  (a0 : (Int × (Int × ((List (Int × (Int × (Int × Unit)))) × Unit)))) (a1 : (List Bool)) : Option R :=
    (call (46 : Nat) s_impl_DiaOk (a0, ())).bind fun (y0 : (Bool × PUnit) × PUnit) =>
    bif !y0.fst.fst then some ((false, ()), ())
    else
      bif (↑a1.length : Int) != a0.fst then some ((false, ()), ())
      else
        (call (110 : Nat) s_impl_tableOf (a0, ())).bind fun (y1 : (List Bool × PUnit) × PUnit) =>
          (call (121 : Nat) s_impl_placeOf (a1, ())).bind fun (y2 : (Int × PUnit) × PUnit) =>
            bif decide ((0 : Int) ≤ y2.fst.fst) && decide (Int.toNat y2.fst.fst < List.length y1.fst.fst) then
              (lget y1.fst.fst (Int.toNat y2.fst.fst)).bind fun (y3 : Bool) => some ((y3, ()), ())
            else none
def F (call : Cl) (k : Nat) (a0 : (Int × (Int × ((List (Int × (Int × (Int × Unit)))) × Unit)))) (a1 : (List Bool)) : Option R := Fm call k  a0 a1
theorem F_eq (call : Cl) (k : Nat) (a0 : Y3_0) (a1 : (List Bool)) : bodyK E call n_impl_YesIn k s_impl_YesIn (a0, a1, ()) = F call k a0 a1 := by
  kernel_rfl
end impl_YesIn
/-! #### spec_NotDia -/
namespace spec_NotDia
abbrev R := (((Int × (Int × ((List (Int × (Int × (Int × Unit)))) × Unit))) × Unit) × Unit)
def S0 (a0 : Y3_0) (v0_0 : Int) (v0_1 : (List Bool)) : St := ⟨mkS 29 [(1, .p [1] [] 0), (2, .p [2] [] 0), (3, .ref [3]), (4, .v (.int .i64) v0_0)], [([3], .list 4 .bool v0_1), ([2, 5, 1, 1, 0], .list 92 (.pair (.int .i64) (.pair (.int .i64) (.pair (.int .i64) .unit))) ([])), ([2], .box (.pr (.v (.int .i64) ((0 : Int))) (.pr (.v (.int .i64) ((0 : Int))) (.pr (.ref [2, 5, 1, 1, 0]) (.v .unit ()))))), ([1], .box (.v (.pair (.int .i64) (.pair (.int .i64) (.pair (.slc (.pair (.int .i64) (.pair (.int .i64) (.pair (.int .i64) .unit)))) .unit))) ((a0.fst), ((a0.snd.fst), ((a0.snd.snd.fst), ())))))]⟩
def step0 (call : Cl) (k : Nat) (a0 : (Int × (Int × ((List (Int × (Int × (Int × Unit)))) × Unit))))   (r0 : (Int) → ((List Bool)) → Option R) (v0_0 : Int) (v0_1 : (List Bool)) : Option R :=
    bif decide (v0_0 < (↑v0_1.length : Int)) then
    bif decide ((0 : Int) ≤ v0_0) && decide (v0_0.toNat < v0_1.length) then
      (lget v0_1 v0_0.toNat).bind fun (y2 : Bool) =>
        bif decide ((0 : Int) ≤ v0_0) && decide (v0_0.toNat < v0_1.length) then
          (lget v0_1 v0_0.toNat).bind fun (y3 : Bool) =>
            r0 (IntKind.i64.wrap (v0_0 + (1 : Int))) (v0_1.set v0_0.toNat !y2)
        else none
    else none
  else
    (call (105 : Nat) s_spec_l13Make (a0.fst, v0_1, ())).bind
      fun (y4 : ((Int × Int × List (Int × Int × Int × PUnit) × PUnit) × PUnit) × PUnit) =>
      some (((y4.fst.fst.fst, y4.fst.fst.snd.fst, y4.fst.fst.snd.snd.fst, y4.fst.fst.snd.snd.snd), ()), ())
def L0 (call : Cl) (k : Nat) (a0 : (Int × (Int × ((List (Int × (Int × (Int × Unit)))) × Unit))))  : Nat → (Int) → ((List Bool)) → Option R
    | 0, _, _ => none
    | n + 1, v0_0, v0_1 => step0 call k a0   (L0 call k a0  n) v0_0 v0_1
def Fm (call : Cl) (k : Nat) (l0 : ((Int × (Int × ((List (Int × (Int × (Int × Unit)))) × Unit)))) → (Int) → ((List Bool)) → Option R) (a0 : (Int × (Int × ((List (Int × (Int × (Int × Unit)))) × Unit)))) : Option R :=
    (call (44 : Nat) s_spec_DiaOk (a0, ())).bind fun (y0 : (Bool × PUnit) × PUnit) =>
    bif !y0.fst.fst then some ((((0 : Int), (0 : Int), [], ()), ()), ())
    else
      (call (106 : Nat) s_spec_l13Table (a0, ())).bind fun (y1 : (List Bool × PUnit) × PUnit) => l0 a0 (0 : Int) y1.fst.fst
def F (call : Cl) (k : Nat) (a0 : (Int × (Int × ((List (Int × (Int × (Int × Unit)))) × Unit)))) : Option R := Fm call k (fun a0_ v0_0_ v0_1_ => L0 call k a0_ k v0_0_ v0_1_) a0
theorem L0_eq (call : Cl) (k : Nat) (J : Nat → St → Option R) (a0 : Y3_0) : ∀ (n : Nat) (x : Y3_2), siteI E call n_spec_NotDia k s_spec_NotDia (a0, ()) J 0 n (S0 a0 x.1 x.2) = L0 call k a0  n x.1 x.2 := by
  refine loop_eq (E := E) (call := call) (f := n_spec_NotDia) (k := k) (s := s_spec_NotDia) (l := (a0, ())) (J := J) (i := 0) (X := Y3_2) (fun x => S0 a0 x.1 x.2) (fun n x => L0 call k a0  n x.1 x.2) (fun r x => step0 call k a0   (fun v0_0 v0_1 => r (v0_0, v0_1)) x.1 x.2) ?_ ?_ ?_
  · intro x; rfl
  · intro n x; rfl
  intro J0 x
  kernel_rfl
theorem F_eq (call : Cl) (k : Nat) (a0 : Y3_0) : bodyK E call n_spec_NotDia k s_spec_NotDia (a0, ()) = F call k a0 := by
  exact Eq.trans (b := Fm call k (fun a0 v0_0_ v0_1_ => siteI E call n_spec_NotDia k s_spec_NotDia (a0, ()) (fun _ _ => none) 0 k (S0 a0 v0_0_ v0_1_)) a0) (by kernel_rfl) (congrArg (fun l => Fm call k l a0) (funext fun a0 => funext fun v0_0_ => funext fun v0_1_ => L0_eq call k (fun _ _ => none) a0 k (v0_0_, v0_1_)))
end spec_NotDia
/-! #### impl_NotDia -/
namespace impl_NotDia
abbrev R := (((Int × (Int × ((List (Int × (Int × (Int × Unit)))) × Unit))) × Unit) × Unit)
def S0 (a0 : Y3_0) (y1 : Y3_1) (v0_1 : Int) (v0_2 : (List Bool)) : St := ⟨mkS 28 [(1, .p [1] [] 0), (2, .p [2] [] 0), (3, .ref [3]), (11, .v (.int .i64) ((↑(List.length y1.fst.fst) : Int))), (12, .v (.int .i64) v0_1)], [([3], .list 4 .bool v0_2), ([2, 5, 1, 1, 0], .list 92 (.pair (.int .i64) (.pair (.int .i64) (.pair (.int .i64) .unit))) ([])), ([2], .box (.pr (.v (.int .i64) ((0 : Int))) (.pr (.v (.int .i64) ((0 : Int))) (.pr (.ref [2, 5, 1, 1, 0]) (.v .unit ()))))), ([1], .box (.v (.pair (.int .i64) (.pair (.int .i64) (.pair (.slc (.pair (.int .i64) (.pair (.int .i64) (.pair (.int .i64) .unit)))) .unit))) ((a0.fst), ((a0.snd.fst), ((a0.snd.snd.fst), ())))))]⟩
def step0 (call : Cl) (k : Nat) (a0 : (Int × (Int × ((List (Int × (Int × (Int × Unit)))) × Unit)))) (y1 : (((List Bool) × Unit) × Unit))   (r0 : (Int) → ((List Bool)) → Option R) (v0_1 : Int) (v0_2 : (List Bool)) : Option R :=
    bif decide (v0_1 < (↑(List.length y1.fst.fst) : Int)) then
    bif decide ((0 : Int) ≤ v0_1) && decide (v0_1.toNat < v0_2.length) then
      (lget v0_2 v0_1.toNat).bind fun (y2 : Bool) =>
        bif decide ((0 : Int) ≤ v0_1) && decide (v0_1.toNat < v0_2.length) then
          (lget v0_2 v0_1.toNat).bind fun (y3 : Bool) =>
            r0 (IntKind.i64.wrap (v0_1 + (1 : Int))) (v0_2.set v0_1.toNat !y2)
        else none
    else none
  else
    (call (109 : Nat) s_impl_diaOf (a0.fst, v0_2, ())).bind
      fun (y4 : ((Int × Int × List (Int × Int × Int × PUnit) × PUnit) × PUnit) × PUnit) =>
      some (((y4.fst.fst.fst, y4.fst.fst.snd.fst, y4.fst.fst.snd.snd.fst, y4.fst.fst.snd.snd.snd), ()), ())
def L0 (call : Cl) (k : Nat) (a0 : (Int × (Int × ((List (Int × (Int × (Int × Unit)))) × Unit)))) (y1 : (((List Bool) × Unit) × Unit))  : Nat → (Int) → ((List Bool)) → Option R
    | 0, _, _ => none
    | n + 1, v0_1, v0_2 => step0 call k a0 y1   (L0 call k a0 y1  n) v0_1 v0_2
def Fm (call : Cl) (k : Nat) (l0 : ((Int × (Int × ((List (Int × (Int × (Int × Unit)))) × Unit)))) → ((((List Bool) × Unit) × Unit)) → (Int) → ((List Bool)) → Option R) (a0 : (Int × (Int × ((List (Int × (Int × (Int × Unit)))) × Unit)))) : Option R :=
    (call (46 : Nat) s_impl_DiaOk (a0, ())).bind fun (y0 : (Bool × PUnit) × PUnit) =>
    bif !y0.fst.fst then some ((((0 : Int), (0 : Int), [], ()), ()), ())
    else
      (call (110 : Nat) s_impl_tableOf (a0, ())).bind fun (y1 : (List Bool × PUnit) × PUnit) => l0 a0 y1 (0 : Int) y1.fst.fst
def F (call : Cl) (k : Nat) (a0 : (Int × (Int × ((List (Int × (Int × (Int × Unit)))) × Unit)))) : Option R := Fm call k (fun a0_ y1_ v0_1_ v0_2_ => L0 call k a0_ y1_ k v0_1_ v0_2_) a0
theorem L0_eq (call : Cl) (k : Nat) (J : Nat → St → Option R) (a0 : Y3_0) (y1 : Y3_1) : ∀ (n : Nat) (x : Y3_2), siteI E call n_impl_NotDia k s_impl_NotDia (a0, ()) J 0 n (S0 a0 y1 x.1 x.2) = L0 call k a0 y1  n x.1 x.2 := by
  refine loop_eq (E := E) (call := call) (f := n_impl_NotDia) (k := k) (s := s_impl_NotDia) (l := (a0, ())) (J := J) (i := 0) (X := Y3_2) (fun x => S0 a0 y1 x.1 x.2) (fun n x => L0 call k a0 y1  n x.1 x.2) (fun r x => step0 call k a0 y1   (fun v0_1 v0_2 => r (v0_1, v0_2)) x.1 x.2) ?_ ?_ ?_
  · intro x; rfl
  · intro n x; rfl
  intro J0 x
  kernel_rfl
theorem F_eq (call : Cl) (k : Nat) (a0 : Y3_0) : bodyK E call n_impl_NotDia k s_impl_NotDia (a0, ()) = F call k a0 := by
  exact Eq.trans (b := Fm call k (fun a0 y1 v0_1_ v0_2_ => siteI E call n_impl_NotDia k s_impl_NotDia (a0, ()) (fun _ _ => none) 0 k (S0 a0 y1 v0_1_ v0_2_)) a0) (by kernel_rfl) (congrArg (fun l => Fm call k l a0) (funext fun a0 => funext fun y1 => funext fun v0_1_ => funext fun v0_2_ => L0_eq call k (fun _ _ => none) a0 y1 k (v0_1_, v0_2_)))
end impl_NotDia
/-! #### spec_FixDia -/
namespace spec_FixDia
abbrev R := (((Int × (Int × ((List (Int × (Int × (Int × Unit)))) × Unit))) × (Bool × Unit)) × Unit)
def S0 (a0 : Y3_0) (a1 : Int) (a2 : Bool) (v0_2 : Int) (v0_3 : (List Bool)) : St := ⟨mkS 51 [(1, .v (.int .i64) (a1)), (2, .v .bool (a2)), (3, .p [3] [] 0), (6, .p [6] [] 0), (8, .ref [8]), (9, .v (.int .i64) v0_2)], [([8], .list 4 .bool v0_3), ([6, 5, 1, 1, 0], .list 92 (.pair (.int .i64) (.pair (.int .i64) (.pair (.int .i64) .unit))) ([])), ([6], .box (.pr (.v (.int .i64) ((0 : Int))) (.pr (.v (.int .i64) ((0 : Int))) (.pr (.ref [6, 5, 1, 1, 0]) (.v .unit ()))))), ([3], .box (.v (.pair (.int .i64) (.pair (.int .i64) (.pair (.slc (.pair (.int .i64) (.pair (.int .i64) (.pair (.int .i64) .unit)))) .unit))) ((a0.fst), ((a0.snd.fst), ((a0.snd.snd.fst), ())))))]⟩
def step0 (call : Cl) (k : Nat) (a0 : (Int × (Int × ((List (Int × (Int × (Int × Unit)))) × Unit)))) (a1 : Int) (a2 : Bool)   (r0 : (Int) → ((List Bool)) → Option R) (v0_2 : Int) (v0_3 : (List Bool)) : Option R :=
    (call (124 : Nat) s_spec_l13Size (a0.fst, ())).bind fun (y2 : (Int × PUnit) × PUnit) =>
    bif decide (v0_2 < y2.fst.fst) then
      (call (125 : Nat) s_spec_l13Bits (a0.fst, v0_2, ())).bind fun (y3 : (List Bool × PUnit) × PUnit) =>
        bif decide ((0 : Int) ≤ a1) && decide (a1.toNat < List.length y3.fst.fst) then
          (lget y3.fst.fst a1.toNat).bind fun (y4 : Bool) =>
            (call (120 : Nat) s_spec_l13Yes
                  ((a0.fst, a0.snd.fst, a0.snd.snd.fst, ()), a0.snd.fst, List.set y3.fst.fst a1.toNat a2, ())).bind
              fun (y5 : (Bool × PUnit) × PUnit) =>
              bif decide ((v0_3.length + [y5.fst.fst].length) * ti4.bytes ≤ (140737488355328 : Nat)) then
                r0 (IntKind.i64.wrap (v0_2 + (1 : Int))) (v0_3 ++ [y5.fst.fst])
              else none
        else none
    else
      (call (105 : Nat) s_spec_l13Make (a0.fst, v0_3, ())).bind
        fun (y6 : ((Int × Int × List (Int × Int × Int × PUnit) × PUnit) × PUnit) × PUnit) =>
        some (((y6.fst.fst.fst, y6.fst.fst.snd.fst, y6.fst.fst.snd.snd.fst, y6.fst.fst.snd.snd.snd), true, ()), ())
def L0 (call : Cl) (k : Nat) (a0 : (Int × (Int × ((List (Int × (Int × (Int × Unit)))) × Unit)))) (a1 : Int) (a2 : Bool)  : Nat → (Int) → ((List Bool)) → Option R
    | 0, _, _ => none
    | n + 1, v0_2, v0_3 => step0 call k a0 a1 a2   (L0 call k a0 a1 a2  n) v0_2 v0_3
def Fm (call : Cl) (k : Nat) (l0 : ((Int × (Int × ((List (Int × (Int × (Int × Unit)))) × Unit)))) → (Int) → (Bool) → (Int) → ((List Bool)) → Option R) (a0 : (Int × (Int × ((List (Int × (Int × (Int × Unit)))) × Unit)))) (a1 : Int) (a2 : Bool) : Option R :=
    (call (44 : Nat) s_spec_DiaOk (a0, ())).bind fun (y0 : (Bool × PUnit) × PUnit) =>
    bif !y0.fst.fst then some ((((0 : Int), (0 : Int), [], ()), false, ()), ())
    else
      (call (88 : Nat) s_spec_l1In (a1, (0 : Int), IntKind.i64.wrap (a0.fst - (1 : Int)), ())).bind
        fun (y1 : (Bool × PUnit) × PUnit) =>
        bif !y1.fst.fst then some ((((0 : Int), (0 : Int), [], ()), false, ()), ()) else l0 a0 a1 a2 (0 : Int) []
def F (call : Cl) (k : Nat) (a0 : (Int × (Int × ((List (Int × (Int × (Int × Unit)))) × Unit)))) (a1 : Int) (a2 : Bool) : Option R := Fm call k (fun a0_ a1_ a2_ v0_2_ v0_3_ => L0 call k a0_ a1_ a2_ k v0_2_ v0_3_) a0 a1 a2
theorem L0_eq (call : Cl) (k : Nat) (J : Nat → St → Option R) (a0 : Y3_0) (a1 : Int) (a2 : Bool) : ∀ (n : Nat) (x : Y3_2), siteI E call n_spec_FixDia k s_spec_FixDia (a0, a1, a2, ()) J 0 n (S0 a0 a1 a2 x.1 x.2) = L0 call k a0 a1 a2  n x.1 x.2 := by
  refine loop_eq (E := E) (call := call) (f := n_spec_FixDia) (k := k) (s := s_spec_FixDia) (l := (a0, a1, a2, ())) (J := J) (i := 0) (X := Y3_2) (fun x => S0 a0 a1 a2 x.1 x.2) (fun n x => L0 call k a0 a1 a2  n x.1 x.2) (fun r x => step0 call k a0 a1 a2   (fun v0_2 v0_3 => r (v0_2, v0_3)) x.1 x.2) ?_ ?_ ?_
  · intro x; rfl
  · intro n x; rfl
  intro J0 x
  kernel_rfl
theorem F_eq (call : Cl) (k : Nat) (a0 : Y3_0) (a1 : Int) (a2 : Bool) : bodyK E call n_spec_FixDia k s_spec_FixDia (a0, a1, a2, ()) = F call k a0 a1 a2 := by
  exact Eq.trans (b := Fm call k (fun a0 a1 a2 v0_2_ v0_3_ => siteI E call n_spec_FixDia k s_spec_FixDia (a0, a1, a2, ()) (fun _ _ => none) 0 k (S0 a0 a1 a2 v0_2_ v0_3_)) a0 a1 a2) (by kernel_rfl) (congrArg (fun l => Fm call k l a0 a1 a2) (funext fun a0 => funext fun a1 => funext fun a2 => funext fun v0_2_ => funext fun v0_3_ => L0_eq call k (fun _ _ => none) a0 a1 a2 k (v0_2_, v0_3_)))
end spec_FixDia
/-! #### impl_FixDia_1 -/
namespace impl_FixDia_1
abbrev R := ((Bool × Unit) × Unit)
def Fm (call : Cl) (k : Nat)  (a0 : Bool) (a1 : Bool) (a2 : Bool) : Option R :=
    bif a2 then some ((a1, ()), ()) else some ((a0, ()), ())
def F (call : Cl) (k : Nat) (a0 : Bool) (a1 : Bool) (a2 : Bool) : Option R := Fm call k  a0 a1 a2
theorem F_eq (call : Cl) (k : Nat) (a0 : Bool) (a1 : Bool) (a2 : Bool) : bodyK E call n_impl_FixDia_1 k s_impl_FixDia_1 (a0, a1, a2, ()) = F call k a0 a1 a2 := by
  kernel_rfl
end impl_FixDia_1
/-! #### impl_withoutBit__impl_FixDia_1 -/
namespace impl_withoutBit__impl_FixDia_1
abbrev R := (((Int × (Int × ((List (Int × (Int × (Int × Unit)))) × Unit))) × (Bool × Unit)) × Unit)
def S0 (a0 : Y3_0) (a2 : (Bool × Unit)) (y1 : Y3_1) (y2 : ((Int × Unit) × Unit)) (v0_4 : Int) (v0_5 : (List Bool)) : St := ⟨mkS 70 [(0, .v (.sptr (.pair (.int .i64) (.pair (.int .i64) (.pair (.slc (.pair (.int .i64) (.pair (.int .i64) (.pair (.int .i64) .unit)))) .unit)))) (a0)), (2, .v (.clo 119 (.pair (.sptr .bool) .unit)) ((a2.fst), ())), (6, .p [6] [] 0), (8, .ref [8]), (9, .v (.int .i64) (y2.fst.fst)), (10, .ref [10]), (42, .v (.int .i64) ((↑(List.length y1.fst.fst) : Int))), (43, .v (.int .i64) v0_4)], [([10], .list 4 .bool v0_5), ([8], .list 4 .bool (y1.fst.fst)), ([6, 5, 1, 1, 0], .list 92 (.pair (.int .i64) (.pair (.int .i64) (.pair (.int .i64) .unit))) ([])), ([6], .box (.pr (.v (.int .i64) ((0 : Int))) (.pr (.v (.int .i64) ((0 : Int))) (.pr (.ref [6, 5, 1, 1, 0]) (.v .unit ())))))]⟩
def step0 (call : Cl) (k : Nat) (a0 : (Int × (Int × ((List (Int × (Int × (Int × Unit)))) × Unit)))) (a2 : (Bool × Unit)) (y1 : (((List Bool) × Unit) × Unit)) (y2 : ((Int × Unit) × Unit))   (r0 : (Int) → ((List Bool)) → Option R) (v0_4 : Int) (v0_5 : (List Bool)) : Option R :=
    bif decide (v0_4 < (↑(List.length y1.fst.fst) : Int)) then
    bif
        decide ((0 : Int) ≤ bitsI BinOp.andNot IntKind.i64 v0_4 y2.fst.fst) &&
          decide ((bitsI BinOp.andNot IntKind.i64 v0_4 y2.fst.fst).toNat < List.length y1.fst.fst) then
      (lget y1.fst.fst (bitsI BinOp.andNot IntKind.i64 v0_4 y2.fst.fst).toNat).bind fun (y3 : Bool) =>
        bif
            decide ((0 : Int) ≤ bitsI BinOp.or IntKind.i64 v0_4 y2.fst.fst) &&
              decide ((bitsI BinOp.or IntKind.i64 v0_4 y2.fst.fst).toNat < List.length y1.fst.fst) then
          (lget y1.fst.fst (bitsI BinOp.or IntKind.i64 v0_4 y2.fst.fst).toNat).bind fun (y4 : Bool) =>
            (call (119 : Nat) s_impl_FixDia_1 (y3, y4, a2.fst, ())).bind fun (y5 : (Bool × PUnit) × PUnit) =>
              bif decide ((0 : Int) ≤ v0_4) && decide (v0_4.toNat < v0_5.length) then
                (lget v0_5 v0_4.toNat).bind fun (y6 : Bool) =>
                  r0 (IntKind.i64.wrap (v0_4 + (1 : Int))) (v0_5.set v0_4.toNat y5.fst.fst)
              else none
        else none
    else none
  else
    (call (109 : Nat) s_impl_diaOf (a0.fst, v0_5, ())).bind
      fun (y7 : ((Int × Int × List (Int × Int × Int × PUnit) × PUnit) × PUnit) × PUnit) =>
      some (((y7.fst.fst.fst, y7.fst.fst.snd.fst, y7.fst.fst.snd.snd.fst, y7.fst.fst.snd.snd.snd), true, ()), ())
def L0 (call : Cl) (k : Nat) (a0 : (Int × (Int × ((List (Int × (Int × (Int × Unit)))) × Unit)))) (a2 : (Bool × Unit)) (y1 : (((List Bool) × Unit) × Unit)) (y2 : ((Int × Unit) × Unit))  : Nat → (Int) → ((List Bool)) → Option R
    | 0, _, _ => none
    | n + 1, v0_4, v0_5 => step0 call k a0 a2 y1 y2   (L0 call k a0 a2 y1 y2  n) v0_4 v0_5
def Fm (call : Cl) (k : Nat) (l0 : ((Int × (Int × ((List (Int × (Int × (Int × Unit)))) × Unit)))) → ((Bool × Unit)) → ((((List Bool) × Unit) × Unit)) → (((Int × Unit) × Unit)) → (Int) → ((List Bool)) → Option R) (a0 : (Int × (Int × ((List (Int × (Int × (Int × Unit)))) × Unit)))) (a1 : Int) (a2 : (Bool × Unit)) : Option R :=
    (call (46 : Nat) s_impl_DiaOk (a0, ())).bind fun (y0 : (Bool × PUnit) × PUnit) =>
    bif !y0.fst.fst then some ((((0 : Int), (0 : Int), [], ()), false, ()), ())
    else
      bif decide (a1 < (0 : Int)) then some ((((0 : Int), (0 : Int), [], ()), false, ()), ())
      else
        bif decide (a1 ≥ a0.fst) then some ((((0 : Int), (0 : Int), [], ()), false, ()), ())
        else
          (call (110 : Nat) s_impl_tableOf (a0, ())).bind fun (y1 : (List Bool × PUnit) × PUnit) =>
            (call (154 : Nat) s_impl_weight (a0.fst, a1, ())).bind fun (y2 : (Int × PUnit) × PUnit) =>
              bif
                  decide ((↑(List.length y1.fst.fst) : Int) = (↑(List.length y1.fst.fst) : Int)) &&
                      decide ((0 : Int) ≤ (↑(List.length y1.fst.fst) : Int)) &&
                    decide ((↑(List.length y1.fst.fst) : Int) * (↑ti4.bytes : Int) ≤ (281474976710656 : Int)) then
                l0 a0 a2 y1 y2 (0 : Int) (List.replicate (↑(List.length y1.fst.fst) : Int).toNat false)
              else none
def F (call : Cl) (k : Nat) (a0 : (Int × (Int × ((List (Int × (Int × (Int × Unit)))) × Unit)))) (a1 : Int) (a2 : (Bool × Unit)) : Option R := Fm call k (fun a0_ a2_ y1_ y2_ v0_4_ v0_5_ => L0 call k a0_ a2_ y1_ y2_ k v0_4_ v0_5_) a0 a1 a2
theorem L0_eq (call : Cl) (k : Nat) (J : Nat → St → Option R) (a0 : Y3_0) (a1 : Int) (a2 : (Bool × Unit)) (y1 : Y3_1) (y2 : ((Int × Unit) × Unit)) : ∀ (n : Nat) (x : Y3_2), siteI E call n_impl_withoutBit__impl_FixDia_1 k s_impl_withoutBit__impl_FixDia_1 (a0, a1, a2, ()) J 0 n (S0 a0 a2 y1 y2 x.1 x.2) = L0 call k a0 a2 y1 y2  n x.1 x.2 := by
  refine loop_eq (E := E) (call := call) (f := n_impl_withoutBit__impl_FixDia_1) (k := k) (s := s_impl_withoutBit__impl_FixDia_1) (l := (a0, a1, a2, ())) (J := J) (i := 0) (X := Y3_2) (fun x => S0 a0 a2 y1 y2 x.1 x.2) (fun n x => L0 call k a0 a2 y1 y2  n x.1 x.2) (fun r x => step0 call k a0 a2 y1 y2   (fun v0_4 v0_5 => r (v0_4, v0_5)) x.1 x.2) ?_ ?_ ?_
  · intro x; rfl
  · intro n x; rfl
  intro J0 x
  kernel_rfl
theorem F_eq (call : Cl) (k : Nat) (a0 : Y3_0) (a1 : Int) (a2 : (Bool × Unit)) : bodyK E call n_impl_withoutBit__impl_FixDia_1 k s_impl_withoutBit__impl_FixDia_1 (a0, a1, a2, ()) = F call k a0 a1 a2 := by
  exact Eq.trans (b := Fm call k (fun a0 a2 y1 y2 v0_4_ v0_5_ => siteI E call n_impl_withoutBit__impl_FixDia_1 k s_impl_withoutBit__impl_FixDia_1 (a0, a1, a2, ()) (fun _ _ => none) 0 k (S0 a0 a2 y1 y2 v0_4_ v0_5_)) a0 a1 a2) (by kernel_rfl) (congrArg (fun l => Fm call k l a0 a1 a2) (funext fun a0 => funext fun a2 => funext fun y1 => funext fun y2 => funext fun v0_4_ => funext fun v0_5_ => L0_eq call k (fun _ _ => none) a0 a1 a2 y1 y2 k (v0_4_, v0_5_)))
end impl_withoutBit__impl_FixDia_1
/-! #### impl_FixDia -/
namespace impl_FixDia
abbrev R := (((Int × (Int × ((List (Int × (Int × (Int × Unit)))) × Unit))) × (Bool × Unit)) × Unit)
def Fm (call : Cl) (k : Nat)  (a0 : (Int × (Int × ((List (Int × (Int × (Int × Unit)))) × Unit)))) (a1 : Int) (a2 : Bool) : Option R :=
    (call (12000118 : Nat) s_impl_withoutBit__impl_FixDia_1 (a0, a1, (a2, ()), ())).bind
    fun (y0 : ((Int × Int × List (Int × Int × Int × PUnit) × PUnit) × Bool × PUnit) × PUnit) =>
    some (((y0.fst.fst.fst, y0.fst.fst.snd.fst, y0.fst.fst.snd.snd.fst, y0.fst.fst.snd.snd.snd), y0.fst.snd.fst, ()), ())
def F (call : Cl) (k : Nat) (a0 : (Int × (Int × ((List (Int × (Int × (Int × Unit)))) × Unit)))) (a1 : Int) (a2 : Bool) : Option R := Fm call k  a0 a1 a2
theorem F_eq (call : Cl) (k : Nat) (a0 : Y3_0) (a1 : Int) (a2 : Bool) : bodyK E call n_impl_FixDia k s_impl_FixDia (a0, a1, a2, ()) = F call k a0 a1 a2 := by
  kernel_rfl
end impl_FixDia
end Go.Proofs.Ytcmgjdmhemfecaa.Pf
