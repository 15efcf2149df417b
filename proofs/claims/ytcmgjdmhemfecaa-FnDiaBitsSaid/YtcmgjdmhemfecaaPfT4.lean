/- Printed texts: what the reading of these functions is. No condition. -/
import Derived.Test.YtcmgjdmhemfecaaPvEnv
import Derived.KernelRfl
set_option linter.unusedVariables false
namespace Go.Proofs.Ytcmgjdmhemfecaa.Pf
open Go Go.Pv
abbrev Y4_0 := (Int × (Int × ((List (Int × (Int × (Int × Unit)))) × Unit)))
abbrev Y4_1 := (((List Bool) × Unit) × Unit)
abbrev Y4_2 := ((Int) × ((List Bool)))
/-! #### impl_AndDia_1 -/
namespace impl_AndDia_1
abbrev R := ((Bool × Unit) × Unit)
def Fm (call : Cl) (k : Nat)  (a0 : Bool) (a1 : Bool) : Option R :=
    bif a0 then some ((a1, ()), ()) else some ((false, ()), ())
def F (call : Cl) (k : Nat) (a0 : Bool) (a1 : Bool) : Option R := Fm call k  a0 a1
theorem F_eq (call : Cl) (k : Nat) (a0 : Bool) (a1 : Bool) : bodyK E call n_impl_AndDia_1 k s_impl_AndDia_1 (a0, a1, ()) = F call k a0 a1 := by
  kernel_rfl
end impl_AndDia_1
/-! #### impl_OrDia_1 -/
namespace impl_OrDia_1
abbrev R := ((Bool × Unit) × Unit)
def Fm (call : Cl) (k : Nat)  (a0 : Bool) (a1 : Bool) : Option R :=
    bif a0 then some ((true, ()), ()) else some ((a1, ()), ())
def F (call : Cl) (k : Nat) (a0 : Bool) (a1 : Bool) : Option R := Fm call k  a0 a1
theorem F_eq (call : Cl) (k : Nat) (a0 : Bool) (a1 : Bool) : bodyK E call n_impl_OrDia_1 k s_impl_OrDia_1 (a0, a1, ()) = F call k a0 a1 := by
  kernel_rfl
end impl_OrDia_1
/-! #### impl_SomeDia_1 -/
namespace impl_SomeDia_1
abbrev R := ((Bool × Unit) × Unit)
def Fm (call : Cl) (k : Nat)  (a0 : Bool) (a1 : Bool) : Option R :=
    bif a0 then some ((true, ()), ()) else some ((a1, ()), ())
def F (call : Cl) (k : Nat) (a0 : Bool) (a1 : Bool) : Option R := Fm call k  a0 a1
theorem F_eq (call : Cl) (k : Nat) (a0 : Bool) (a1 : Bool) : bodyK E call n_impl_SomeDia_1 k s_impl_SomeDia_1 (a0, a1, ()) = F call k a0 a1 := by
  kernel_rfl
end impl_SomeDia_1
/-! #### spec_l13Both -/
namespace spec_l13Both
abbrev R := (((Int × (Int × ((List (Int × (Int × (Int × Unit)))) × Unit))) × (Bool × Unit)) × Unit)
def S0 (a0 : Y4_0) (a2 : Bool) (y3 : Y4_1) (v0_1 : Int) (v0_3 : (List Bool)) : St := ⟨mkS 68 [(2, .v .bool (a2)), (3, .p [3] [] 0), (6, .p [6] [] 0), (8, .ref [8]), (9, .ref [9]), (10, .v (.int .i64) v0_1)], [([9], .list 4 .bool (y3.fst.fst)), ([8], .list 4 .bool v0_3), ([6, 5, 1, 1, 0], .list 92 (.pair (.int .i64) (.pair (.int .i64) (.pair (.int .i64) .unit))) ([])), ([6], .box (.pr (.v (.int .i64) ((0 : Int))) (.pr (.v (.int .i64) ((0 : Int))) (.pr (.ref [6, 5, 1, 1, 0]) (.v .unit ()))))), ([3], .box (.v (.pair (.int .i64) (.pair (.int .i64) (.pair (.slc (.pair (.int .i64) (.pair (.int .i64) (.pair (.int .i64) .unit)))) .unit))) ((a0.fst), ((a0.snd.fst), ((a0.snd.snd.fst), ())))))]⟩
def step0 (call : Cl) (k : Nat) (a0 : (Int × (Int × ((List (Int × (Int × (Int × Unit)))) × Unit)))) (a2 : Bool) (y3 : (((List Bool) × Unit) × Unit))   (r0 : (Int) → ((List Bool)) → Option R) (v0_1 : Int) (v0_3 : (List Bool)) : Option R :=
    bif decide (v0_1 < (↑v0_3.length : Int)) then
    bif a2 then
      bif decide ((0 : Int) ≤ v0_1) && decide (v0_1.toNat < v0_3.length) then
        (lget v0_3 v0_1.toNat).bind fun (y4 : Bool) =>
          bif y4 then
            bif decide ((0 : Int) ≤ v0_1) && decide (v0_1.toNat < List.length y3.fst.fst) then
              (lget y3.fst.fst v0_1.toNat).bind fun (y5 : Bool) =>
                bif decide ((0 : Int) ≤ v0_1) && decide (v0_1.toNat < v0_3.length) then
                  (lget v0_3 v0_1.toNat).bind fun (y6 : Bool) =>
                    r0 (IntKind.i64.wrap (v0_1 + (1 : Int))) (v0_3.set v0_1.toNat y5)
                else none
            else none
          else
            bif decide ((0 : Int) ≤ v0_1) && decide (v0_1.toNat < v0_3.length) then
              (lget v0_3 v0_1.toNat).bind fun (y7 : Bool) =>
                r0 (IntKind.i64.wrap (v0_1 + (1 : Int))) (v0_3.set v0_1.toNat false)
            else none
      else none
    else
      bif decide ((0 : Int) ≤ v0_1) && decide (v0_1.toNat < v0_3.length) then
        (lget v0_3 v0_1.toNat).bind fun (y8 : Bool) =>
          bif y8 then
            bif decide ((0 : Int) ≤ v0_1) && decide (v0_1.toNat < v0_3.length) then
              (lget v0_3 v0_1.toNat).bind fun (y9 : Bool) =>
                r0 (IntKind.i64.wrap (v0_1 + (1 : Int))) (v0_3.set v0_1.toNat true)
            else none
          else
            bif decide ((0 : Int) ≤ v0_1) && decide (v0_1.toNat < List.length y3.fst.fst) then
              (lget y3.fst.fst v0_1.toNat).bind fun (y10 : Bool) =>
                bif decide ((0 : Int) ≤ v0_1) && decide (v0_1.toNat < v0_3.length) then
                  (lget v0_3 v0_1.toNat).bind fun (y11 : Bool) =>
                    r0 (IntKind.i64.wrap (v0_1 + (1 : Int))) (v0_3.set v0_1.toNat y10)
                else none
            else none
      else none
  else
    (call (105 : Nat) s_spec_l13Make (a0.fst, v0_3, ())).bind
      fun (y12 : ((Int × Int × List (Int × Int × Int × PUnit) × PUnit) × PUnit) × PUnit) =>
      some (((y12.fst.fst.fst, y12.fst.fst.snd.fst, y12.fst.fst.snd.snd.fst, y12.fst.fst.snd.snd.snd), true, ()), ())
def L0 (call : Cl) (k : Nat) (a0 : (Int × (Int × ((List (Int × (Int × (Int × Unit)))) × Unit)))) (a2 : Bool) (y3 : (((List Bool) × Unit) × Unit))  : Nat → (Int) → ((List Bool)) → Option R
    | 0, _, _ => none
    | n + 1, v0_1, v0_3 => step0 call k a0 a2 y3   (L0 call k a0 a2 y3  n) v0_1 v0_3
def Fm (call : Cl) (k : Nat) (l0 : ((Int × (Int × ((List (Int × (Int × (Int × Unit)))) × Unit)))) → (Bool) → ((((List Bool) × Unit) × Unit)) → (Int) → ((List Bool)) → Option R) (a0 : (Int × (Int × ((List (Int × (Int × (Int × Unit)))) × Unit)))) (a1 : (Int × (Int × ((List (Int × (Int × (Int × Unit)))) × Unit)))) (a2 : Bool) : Option R :=
    (call (44 : Nat) s_spec_DiaOk (a0, ())).bind fun (y0 : (Bool × PUnit) × PUnit) =>
    bif !y0.fst.fst then some ((((0 : Int), (0 : Int), [], ()), false, ()), ())
    else
      (call (44 : Nat) s_spec_DiaOk (a1, ())).bind fun (y1 : (Bool × PUnit) × PUnit) =>
        bif !y1.fst.fst then some ((((0 : Int), (0 : Int), [], ()), false, ()), ())
        else
          bif a0.fst != a1.fst then some ((((0 : Int), (0 : Int), [], ()), false, ()), ())
          else
            (call (106 : Nat) s_spec_l13Table (a0, ())).bind fun (y2 : (List Bool × PUnit) × PUnit) =>
              (call (106 : Nat) s_spec_l13Table (a1, ())).bind fun (y3 : (List Bool × PUnit) × PUnit) =>
                l0 a0 a2 y3 (0 : Int) y2.fst.fst
def F (call : Cl) (k : Nat) (a0 : (Int × (Int × ((List (Int × (Int × (Int × Unit)))) × Unit)))) (a1 : (Int × (Int × ((List (Int × (Int × (Int × Unit)))) × Unit)))) (a2 : Bool) : Option R := Fm call k (fun a0_ a2_ y3_ v0_1_ v0_3_ => L0 call k a0_ a2_ y3_ k v0_1_ v0_3_) a0 a1 a2
theorem L0_eq (call : Cl) (k : Nat) (J : Nat → St → Option R) (a0 : Y4_0) (a1 : Y4_0) (a2 : Bool) (y3 : Y4_1) : ∀ (n : Nat) (x : Y4_2), siteI E call n_spec_l13Both k s_spec_l13Both (a0, a1, a2, ()) J 0 n (S0 a0 a2 y3 x.1 x.2) = L0 call k a0 a2 y3  n x.1 x.2 := by
  refine loop_eq (E := E) (call := call) (f := n_spec_l13Both) (k := k) (s := s_spec_l13Both) (l := (a0, a1, a2, ())) (J := J) (i := 0) (X := Y4_2) (fun x => S0 a0 a2 y3 x.1 x.2) (fun n x => L0 call k a0 a2 y3  n x.1 x.2) (fun r x => step0 call k a0 a2 y3   (fun v0_1 v0_3 => r (v0_1, v0_3)) x.1 x.2) ?_ ?_ ?_
  · intro x; rfl
  · intro n x; rfl
  intro J0 x
  kernel_rfl
theorem F_eq (call : Cl) (k : Nat) (a0 : Y4_0) (a1 : Y4_0) (a2 : Bool) : bodyK E call n_spec_l13Both k s_spec_l13Both (a0, a1, a2, ()) = F call k a0 a1 a2 := by
  exact Eq.trans (b := Fm call k (fun a0 a2 y3 v0_1_ v0_3_ => siteI E call n_spec_l13Both k s_spec_l13Both (a0, a1, a2, ()) (fun _ _ => none) 0 k (S0 a0 a2 y3 v0_1_ v0_3_)) a0 a1 a2) (by kernel_rfl) (congrArg (fun l => Fm call k l a0 a1 a2) (funext fun a0 => funext fun a2 => funext fun y3 => funext fun v0_1_ => funext fun v0_3_ => L0_eq call k (fun _ _ => none) a0 a1 a2 y3 k (v0_1_, v0_3_)))
end spec_l13Both
/-! #### spec_AndDia -/
namespace spec_AndDia
abbrev R := (((Int × (Int × ((List (Int × (Int × (Int × Unit)))) × Unit))) × (Bool × Unit)) × Unit)
def Fm (call : Cl) (k : Nat)  (a0 : (Int × (Int × ((List (Int × (Int × (Int × Unit)))) × Unit)))) (a1 : (Int × (Int × ((List (Int × (Int × (Int × Unit)))) × Unit)))) : Option R :=
    (call (123 : Nat) s_spec_l13Both (a0, a1, true, ())).bind
    fun (y0 : ((Int × Int × List (Int × Int × Int × PUnit) × PUnit) × Bool × PUnit) × PUnit) =>
    some (((y0.fst.fst.fst, y0.fst.fst.snd.fst, y0.fst.fst.snd.snd.fst, y0.fst.fst.snd.snd.snd), y0.fst.snd.fst, ()), ())
def F (call : Cl) (k : Nat) (a0 : (Int × (Int × ((List (Int × (Int × (Int × Unit)))) × Unit)))) (a1 : (Int × (Int × ((List (Int × (Int × (Int × Unit)))) × Unit)))) : Option R := Fm call k  a0 a1
theorem F_eq (call : Cl) (k : Nat) (a0 : Y4_0) (a1 : Y4_0) : bodyK E call n_spec_AndDia k s_spec_AndDia (a0, a1, ()) = F call k a0 a1 := by
  kernel_rfl
end spec_AndDia
/-! #### spec_OrDia -/
namespace spec_OrDia
abbrev R := (((Int × (Int × ((List (Int × (Int × (Int × Unit)))) × Unit))) × (Bool × Unit)) × Unit)
def Fm (call : Cl) (k : Nat)  (a0 : (Int × (Int × ((List (Int × (Int × (Int × Unit)))) × Unit)))) (a1 : (Int × (Int × ((List (Int × (Int × (Int × Unit)))) × Unit)))) : Option R :=
    (call (123 : Nat) s_spec_l13Both (a0, a1, false, ())).bind
    fun (y0 : ((Int × Int × List (Int × Int × Int × PUnit) × PUnit) × Bool × PUnit) × PUnit) =>
    some (((y0.fst.fst.fst, y0.fst.fst.snd.fst, y0.fst.fst.snd.snd.fst, y0.fst.fst.snd.snd.snd), y0.fst.snd.fst, ()), ())
def F (call : Cl) (k : Nat) (a0 : (Int × (Int × ((List (Int × (Int × (Int × Unit)))) × Unit)))) (a1 : (Int × (Int × ((List (Int × (Int × (Int × Unit)))) × Unit)))) : Option R := Fm call k  a0 a1
theorem F_eq (call : Cl) (k : Nat) (a0 : Y4_0) (a1 : Y4_0) : bodyK E call n_spec_OrDia k s_spec_OrDia (a0, a1, ()) = F call k a0 a1 := by
  kernel_rfl
end spec_OrDia
/-! #### spec_SomeDia -/
namespace spec_SomeDia
abbrev R := (((Int × (Int × ((List (Int × (Int × (Int × Unit)))) × Unit))) × (Bool × Unit)) × Unit)
def Fm (call : Cl) (k : Nat)  (a0 : (Int × (Int × ((List (Int × (Int × (Int × Unit)))) × Unit)))) (a1 : Int) : Option R :=
    (call (69 : Nat) s_spec_FixDia (a0, a1, false, ())).bind
    fun (y0 : ((Int × Int × List (Int × Int × Int × PUnit) × PUnit) × Bool × PUnit) × PUnit) =>
    (call (69 : Nat) s_spec_FixDia (a0, a1, true, ())).bind
      fun (y1 : ((Int × Int × List (Int × Int × Int × PUnit) × PUnit) × Bool × PUnit) × PUnit) =>
      bif !y0.fst.snd.fst then some ((((0 : Int), (0 : Int), [], ()), false, ()), ())
      else
        (call (68 : Nat) s_spec_OrDia
              ((y0.fst.fst.fst, y0.fst.fst.snd.fst, y0.fst.fst.snd.snd.fst, y0.fst.fst.snd.snd.snd),
                (y1.fst.fst.fst, y1.fst.fst.snd.fst, y1.fst.fst.snd.snd.fst, y1.fst.fst.snd.snd.snd), ())).bind
          fun (y2 : ((Int × Int × List (Int × Int × Int × PUnit) × PUnit) × Bool × PUnit) × PUnit) =>
          some
            (((y2.fst.fst.fst, y2.fst.fst.snd.fst, y2.fst.fst.snd.snd.fst, y2.fst.fst.snd.snd.snd), y2.fst.snd.fst, ()),
              ())
def F (call : Cl) (k : Nat) (a0 : (Int × (Int × ((List (Int × (Int × (Int × Unit)))) × Unit)))) (a1 : Int) : Option R := Fm call k  a0 a1
theorem F_eq (call : Cl) (k : Nat) (a0 : Y4_0) (a1 : Int) : bodyK E call n_spec_SomeDia k s_spec_SomeDia (a0, a1, ()) = F call k a0 a1 := by
  kernel_rfl
end spec_SomeDia
/-! #### impl_bothDias__impl_AndDia_1 -/
namespace impl_bothDias__impl_AndDia_1
abbrev R := (((Int × (Int × ((List (Int × (Int × (Int × Unit)))) × Unit))) × (Bool × Unit)) × Unit)
def S0 (a0 : Y4_0) (y2 : Y4_1) (y3 : Y4_1) (v0_2 : Int) (v0_4 : (List Bool)) : St := ⟨mkS 64 [(0, .v (.sptr (.pair (.int .i64) (.pair (.int .i64) (.pair (.slc (.pair (.int .i64) (.pair (.int .i64) (.pair (.int .i64) .unit)))) .unit)))) (a0)), (2, .v (.clo 117 .unit) ()), (6, .p [6] [] 0), (8, .ref [8]), (9, .ref [9]), (40, .v (.int .i64) ((↑(List.length y2.fst.fst) : Int))), (41, .v (.int .i64) v0_2)], [([9], .list 4 .bool (y3.fst.fst)), ([8], .list 4 .bool v0_4), ([6, 5, 1, 1, 0], .list 92 (.pair (.int .i64) (.pair (.int .i64) (.pair (.int .i64) .unit))) ([])), ([6], .box (.pr (.v (.int .i64) ((0 : Int))) (.pr (.v (.int .i64) ((0 : Int))) (.pr (.ref [6, 5, 1, 1, 0]) (.v .unit ())))))]⟩
def step0 (call : Cl) (k : Nat) (a0 : (Int × (Int × ((List (Int × (Int × (Int × Unit)))) × Unit)))) (y2 : (((List Bool) × Unit) × Unit)) (y3 : (((List Bool) × Unit) × Unit))   (r0 : (Int) → ((List Bool)) → Option R) (v0_2 : Int) (v0_4 : (List Bool)) : Option R :=
    bif decide (v0_2 < (↑(List.length y2.fst.fst) : Int)) then
    bif decide ((0 : Int) ≤ v0_2) && decide (v0_2.toNat < v0_4.length) then
      (lget v0_4 v0_2.toNat).bind fun (y4 : Bool) =>
        bif decide ((0 : Int) ≤ v0_2) && decide (v0_2.toNat < List.length y3.fst.fst) then
          (lget y3.fst.fst v0_2.toNat).bind fun (y5 : Bool) =>
            (call (117 : Nat) s_impl_AndDia_1 (y4, y5, ())).bind fun (y6 : (Bool × PUnit) × PUnit) =>
              bif decide ((0 : Int) ≤ v0_2) && decide (v0_2.toNat < v0_4.length) then
                (lget v0_4 v0_2.toNat).bind fun (y7 : Bool) =>
                  r0 (IntKind.i64.wrap (v0_2 + (1 : Int))) (v0_4.set v0_2.toNat y6.fst.fst)
              else none
        else none
    else none
  else
    (call (109 : Nat) s_impl_diaOf (a0.fst, v0_4, ())).bind
      fun (y8 : ((Int × Int × List (Int × Int × Int × PUnit) × PUnit) × PUnit) × PUnit) =>
      some (((y8.fst.fst.fst, y8.fst.fst.snd.fst, y8.fst.fst.snd.snd.fst, y8.fst.fst.snd.snd.snd), true, ()), ())
def L0 (call : Cl) (k : Nat) (a0 : (Int × (Int × ((List (Int × (Int × (Int × Unit)))) × Unit)))) (y2 : (((List Bool) × Unit) × Unit)) (y3 : (((List Bool) × Unit) × Unit))  : Nat → (Int) → ((List Bool)) → Option R
    | 0, _, _ => none
    | n + 1, v0_2, v0_4 => step0 call k a0 y2 y3   (L0 call k a0 y2 y3  n) v0_2 v0_4
def Fm (call : Cl) (k : Nat) (l0 : ((Int × (Int × ((List (Int × (Int × (Int × Unit)))) × Unit)))) → ((((List Bool) × Unit) × Unit)) → ((((List Bool) × Unit) × Unit)) → (Int) → ((List Bool)) → Option R) (a0 : (Int × (Int × ((List (Int × (Int × (Int × Unit)))) × Unit)))) (a1 : (Int × (Int × ((List (Int × (Int × (Int × Unit)))) × Unit)))) (a2 : Unit) : Option R :=
    (call (46 : Nat) s_impl_DiaOk (a0, ())).bind fun (y0 : (Bool × PUnit) × PUnit) =>
    bif !y0.fst.fst then some ((((0 : Int), (0 : Int), [], ()), false, ()), ())
    else
      (call (46 : Nat) s_impl_DiaOk (a1, ())).bind fun (y1 : (Bool × PUnit) × PUnit) =>
        bif !y1.fst.fst then some ((((0 : Int), (0 : Int), [], ()), false, ()), ())
        else
          bif a0.fst != a1.fst then some ((((0 : Int), (0 : Int), [], ()), false, ()), ())
          else
            (call (110 : Nat) s_impl_tableOf (a0, ())).bind fun (y2 : (List Bool × PUnit) × PUnit) =>
              (call (110 : Nat) s_impl_tableOf (a1, ())).bind fun (y3 : (List Bool × PUnit) × PUnit) =>
                l0 a0 y2 y3 (0 : Int) y2.fst.fst
def F (call : Cl) (k : Nat) (a0 : (Int × (Int × ((List (Int × (Int × (Int × Unit)))) × Unit)))) (a1 : (Int × (Int × ((List (Int × (Int × (Int × Unit)))) × Unit)))) (a2 : Unit) : Option R := Fm call k (fun a0_ y2_ y3_ v0_2_ v0_4_ => L0 call k a0_ y2_ y3_ k v0_2_ v0_4_) a0 a1 a2
theorem L0_eq (call : Cl) (k : Nat) (J : Nat → St → Option R) (a0 : Y4_0) (a1 : Y4_0) (a2 : Unit) (y2 : Y4_1) (y3 : Y4_1) : ∀ (n : Nat) (x : Y4_2), siteI E call n_impl_bothDias__impl_AndDia_1 k s_impl_bothDias__impl_AndDia_1 (a0, a1, a2, ()) J 0 n (S0 a0 y2 y3 x.1 x.2) = L0 call k a0 y2 y3  n x.1 x.2 := by
  refine loop_eq (E := E) (call := call) (f := n_impl_bothDias__impl_AndDia_1) (k := k) (s := s_impl_bothDias__impl_AndDia_1) (l := (a0, a1, a2, ())) (J := J) (i := 0) (X := Y4_2) (fun x => S0 a0 y2 y3 x.1 x.2) (fun n x => L0 call k a0 y2 y3  n x.1 x.2) (fun r x => step0 call k a0 y2 y3   (fun v0_2 v0_4 => r (v0_2, v0_4)) x.1 x.2) ?_ ?_ ?_
  · intro x; rfl
  · intro n x; rfl
  intro J0 x
  kernel_rfl
theorem F_eq (call : Cl) (k : Nat) (a0 : Y4_0) (a1 : Y4_0) (a2 : Unit) : bodyK E call n_impl_bothDias__impl_AndDia_1 k s_impl_bothDias__impl_AndDia_1 (a0, a1, a2, ()) = F call k a0 a1 a2 := by
  exact Eq.trans (b := Fm call k (fun a0 y2 y3 v0_2_ v0_4_ => siteI E call n_impl_bothDias__impl_AndDia_1 k s_impl_bothDias__impl_AndDia_1 (a0, a1, a2, ()) (fun _ _ => none) 0 k (S0 a0 y2 y3 v0_2_ v0_4_)) a0 a1 a2) (by kernel_rfl) (congrArg (fun l => Fm call k l a0 a1 a2) (funext fun a0 => funext fun y2 => funext fun y3 => funext fun v0_2_ => funext fun v0_4_ => L0_eq call k (fun _ _ => none) a0 a1 a2 y2 y3 k (v0_2_, v0_4_)))
end impl_bothDias__impl_AndDia_1
/-! #### impl_bothDias__impl_OrDia_1 -/
namespace impl_bothDias__impl_OrDia_1
abbrev R := (((Int × (Int × ((List (Int × (Int × (Int × Unit)))) × Unit))) × (Bool × Unit)) × Unit)
def S0 (a0 : Y4_0) (y2 : Y4_1) (y3 : Y4_1) (v0_2 : Int) (v0_4 : (List Bool)) : St := ⟨mkS 64 [(0, .v (.sptr (.pair (.int .i64) (.pair (.int .i64) (.pair (.slc (.pair (.int .i64) (.pair (.int .i64) (.pair (.int .i64) .unit)))) .unit)))) (a0)), (2, .v (.clo 116 .unit) ()), (6, .p [6] [] 0), (8, .ref [8]), (9, .ref [9]), (40, .v (.int .i64) ((↑(List.length y2.fst.fst) : Int))), (41, .v (.int .i64) v0_2)], [([9], .list 4 .bool (y3.fst.fst)), ([8], .list 4 .bool v0_4), ([6, 5, 1, 1, 0], .list 92 (.pair (.int .i64) (.pair (.int .i64) (.pair (.int .i64) .unit))) ([])), ([6], .box (.pr (.v (.int .i64) ((0 : Int))) (.pr (.v (.int .i64) ((0 : Int))) (.pr (.ref [6, 5, 1, 1, 0]) (.v .unit ())))))]⟩
def step0 (call : Cl) (k : Nat) (a0 : (Int × (Int × ((List (Int × (Int × (Int × Unit)))) × Unit)))) (y2 : (((List Bool) × Unit) × Unit)) (y3 : (((List Bool) × Unit) × Unit))   (r0 : (Int) → ((List Bool)) → Option R) (v0_2 : Int) (v0_4 : (List Bool)) : Option R :=
    bif decide (v0_2 < (↑(List.length y2.fst.fst) : Int)) then
    bif decide ((0 : Int) ≤ v0_2) && decide (v0_2.toNat < v0_4.length) then
      (lget v0_4 v0_2.toNat).bind fun (y4 : Bool) =>
        bif decide ((0 : Int) ≤ v0_2) && decide (v0_2.toNat < List.length y3.fst.fst) then
          (lget y3.fst.fst v0_2.toNat).bind fun (y5 : Bool) =>
            (call (116 : Nat) s_impl_OrDia_1 (y4, y5, ())).bind fun (y6 : (Bool × PUnit) × PUnit) =>
              bif decide ((0 : Int) ≤ v0_2) && decide (v0_2.toNat < v0_4.length) then
                (lget v0_4 v0_2.toNat).bind fun (y7 : Bool) =>
                  r0 (IntKind.i64.wrap (v0_2 + (1 : Int))) (v0_4.set v0_2.toNat y6.fst.fst)
              else none
        else none
    else none
  else
    (call (109 : Nat) s_impl_diaOf (a0.fst, v0_4, ())).bind
      fun (y8 : ((Int × Int × List (Int × Int × Int × PUnit) × PUnit) × PUnit) × PUnit) =>
      some (((y8.fst.fst.fst, y8.fst.fst.snd.fst, y8.fst.fst.snd.snd.fst, y8.fst.fst.snd.snd.snd), true, ()), ())
def L0 (call : Cl) (k : Nat) (a0 : (Int × (Int × ((List (Int × (Int × (Int × Unit)))) × Unit)))) (y2 : (((List Bool) × Unit) × Unit)) (y3 : (((List Bool) × Unit) × Unit))  : Nat → (Int) → ((List Bool)) → Option R
    | 0, _, _ => none
    | n + 1, v0_2, v0_4 => step0 call k a0 y2 y3   (L0 call k a0 y2 y3  n) v0_2 v0_4
def Fm (call : Cl) (k : Nat) (l0 : ((Int × (Int × ((List (Int × (Int × (Int × Unit)))) × Unit)))) → ((((List Bool) × Unit) × Unit)) → ((((List Bool) × Unit) × Unit)) → (Int) → ((List Bool)) → Option R) (a0 : (Int × (Int × ((List (Int × (Int × (Int × Unit)))) × Unit)))) (a1 : (Int × (Int × ((List (Int × (Int × (Int × Unit)))) × Unit)))) (a2 : Unit) : Option R :=
    (call (46 : Nat) s_impl_DiaOk (a0, ())).bind fun (y0 : (Bool × PUnit) × PUnit) =>
    bif !y0.fst.fst then some ((((0 : Int), (0 : Int), [], ()), false, ()), ())
    else
      (call (46 : Nat) s_impl_DiaOk (a1, ())).bind fun (y1 : (Bool × PUnit) × PUnit) =>
        bif !y1.fst.fst then some ((((0 : Int), (0 : Int), [], ()), false, ()), ())
        else
          bif a0.fst != a1.fst then some ((((0 : Int), (0 : Int), [], ()), false, ()), ())
          else
            (call (110 : Nat) s_impl_tableOf (a0, ())).bind fun (y2 : (List Bool × PUnit) × PUnit) =>
              (call (110 : Nat) s_impl_tableOf (a1, ())).bind fun (y3 : (List Bool × PUnit) × PUnit) =>
                l0 a0 y2 y3 (0 : Int) y2.fst.fst
def F (call : Cl) (k : Nat) (a0 : (Int × (Int × ((List (Int × (Int × (Int × Unit)))) × Unit)))) (a1 : (Int × (Int × ((List (Int × (Int × (Int × Unit)))) × Unit)))) (a2 : Unit) : Option R := Fm call k (fun a0_ y2_ y3_ v0_2_ v0_4_ => L0 call k a0_ y2_ y3_ k v0_2_ v0_4_) a0 a1 a2
theorem L0_eq (call : Cl) (k : Nat) (J : Nat → St → Option R) (a0 : Y4_0) (a1 : Y4_0) (a2 : Unit) (y2 : Y4_1) (y3 : Y4_1) : ∀ (n : Nat) (x : Y4_2), siteI E call n_impl_bothDias__impl_OrDia_1 k s_impl_bothDias__impl_OrDia_1 (a0, a1, a2, ()) J 0 n (S0 a0 y2 y3 x.1 x.2) = L0 call k a0 y2 y3  n x.1 x.2 := by
  refine loop_eq (E := E) (call := call) (f := n_impl_bothDias__impl_OrDia_1) (k := k) (s := s_impl_bothDias__impl_OrDia_1) (l := (a0, a1, a2, ())) (J := J) (i := 0) (X := Y4_2) (fun x => S0 a0 y2 y3 x.1 x.2) (fun n x => L0 call k a0 y2 y3  n x.1 x.2) (fun r x => step0 call k a0 y2 y3   (fun v0_2 v0_4 => r (v0_2, v0_4)) x.1 x.2) ?_ ?_ ?_
  · intro x; rfl
  · intro n x; rfl
  intro J0 x
  kernel_rfl
theorem F_eq (call : Cl) (k : Nat) (a0 : Y4_0) (a1 : Y4_0) (a2 : Unit) : bodyK E call n_impl_bothDias__impl_OrDia_1 k s_impl_bothDias__impl_OrDia_1 (a0, a1, a2, ()) = F call k a0 a1 a2 := by
  exact Eq.trans (b := Fm call k (fun a0 y2 y3 v0_2_ v0_4_ => siteI E call n_impl_bothDias__impl_OrDia_1 k s_impl_bothDias__impl_OrDia_1 (a0, a1, a2, ()) (fun _ _ => none) 0 k (S0 a0 y2 y3 v0_2_ v0_4_)) a0 a1 a2) (by kernel_rfl) (congrArg (fun l => Fm call k l a0 a1 a2) (funext fun a0 => funext fun y2 => funext fun y3 => funext fun v0_2_ => funext fun v0_4_ => L0_eq call k (fun _ _ => none) a0 a1 a2 y2 y3 k (v0_2_, v0_4_)))
end impl_bothDias__impl_OrDia_1
/-! #### impl_AndDia -/
namespace impl_AndDia
abbrev R := (((Int × (Int × ((List (Int × (Int × (Int × Unit)))) × Unit))) × (Bool × Unit)) × Unit)
def Fm (call : Cl) (k : Nat)  (a0 : (Int × (Int × ((List (Int × (Int × (Int × Unit)))) × Unit)))) (a1 : (Int × (Int × ((List (Int × (Int × (Int × Unit)))) × Unit)))) : Option R :=
    (call (11800115 : Nat) s_impl_bothDias__impl_AndDia_1 (a0, a1, (), ())).bind
    fun (y0 : ((Int × Int × List (Int × Int × Int × PUnit) × PUnit) × Bool × PUnit) × PUnit) =>
    some (((y0.fst.fst.fst, y0.fst.fst.snd.fst, y0.fst.fst.snd.snd.fst, y0.fst.fst.snd.snd.snd), y0.fst.snd.fst, ()), ())
def F (call : Cl) (k : Nat) (a0 : (Int × (Int × ((List (Int × (Int × (Int × Unit)))) × Unit)))) (a1 : (Int × (Int × ((List (Int × (Int × (Int × Unit)))) × Unit)))) : Option R := Fm call k  a0 a1
theorem F_eq (call : Cl) (k : Nat) (a0 : Y4_0) (a1 : Y4_0) : bodyK E call n_impl_AndDia k s_impl_AndDia (a0, a1, ()) = F call k a0 a1 := by
  kernel_rfl
end impl_AndDia
/-! #### impl_OrDia -/
namespace impl_OrDia
abbrev R := (((Int × (Int × ((List (Int × (Int × (Int × Unit)))) × Unit))) × (Bool × Unit)) × Unit)
def Fm (call : Cl) (k : Nat)  (a0 : (Int × (Int × ((List (Int × (Int × (Int × Unit)))) × Unit)))) (a1 : (Int × (Int × ((List (Int × (Int × (Int × Unit)))) × Unit)))) : Option R :=
    (call (11700115 : Nat) s_impl_bothDias__impl_OrDia_1 (a0, a1, (), ())).bind
    fun (y0 : ((Int × Int × List (Int × Int × Int × PUnit) × PUnit) × Bool × PUnit) × PUnit) =>
    some (((y0.fst.fst.fst, y0.fst.fst.snd.fst, y0.fst.fst.snd.snd.fst, y0.fst.fst.snd.snd.snd), y0.fst.snd.fst, ()), ())
def F (call : Cl) (k : Nat) (a0 : (Int × (Int × ((List (Int × (Int × (Int × Unit)))) × Unit)))) (a1 : (Int × (Int × ((List (Int × (Int × (Int × Unit)))) × Unit)))) : Option R := Fm call k  a0 a1
theorem F_eq (call : Cl) (k : Nat) (a0 : Y4_0) (a1 : Y4_0) : bodyK E call n_impl_OrDia k s_impl_OrDia (a0, a1, ()) = F call k a0 a1 := by
  kernel_rfl
end impl_OrDia
/-! #### impl_withoutBit__impl_SomeDia_1 -/
namespace impl_withoutBit__impl_SomeDia_1
abbrev R := (((Int × (Int × ((List (Int × (Int × (Int × Unit)))) × Unit))) × (Bool × Unit)) × Unit)
def S0 (a0 : Y4_0) (y1 : Y4_1) (y2 : ((Int × Unit) × Unit)) (v0_3 : Int) (v0_4 : (List Bool)) : St := ⟨mkS 70 [(0, .v (.sptr (.pair (.int .i64) (.pair (.int .i64) (.pair (.slc (.pair (.int .i64) (.pair (.int .i64) (.pair (.int .i64) .unit)))) .unit)))) (a0)), (2, .v (.clo 122 .unit) ()), (6, .p [6] [] 0), (8, .ref [8]), (9, .v (.int .i64) (y2.fst.fst)), (10, .ref [10]), (42, .v (.int .i64) ((↑(List.length y1.fst.fst) : Int))), (43, .v (.int .i64) v0_3)], [([10], .list 4 .bool v0_4), ([8], .list 4 .bool (y1.fst.fst)), ([6, 5, 1, 1, 0], .list 92 (.pair (.int .i64) (.pair (.int .i64) (.pair (.int .i64) .unit))) ([])), ([6], .box (.pr (.v (.int .i64) ((0 : Int))) (.pr (.v (.int .i64) ((0 : Int))) (.pr (.ref [6, 5, 1, 1, 0]) (.v .unit ())))))]⟩
def step0 (call : Cl) (k : Nat) (a0 : (Int × (Int × ((List (Int × (Int × (Int × Unit)))) × Unit)))) (y1 : (((List Bool) × Unit) × Unit)) (y2 : ((Int × Unit) × Unit))   (r0 : (Int) → ((List Bool)) → Option R) (v0_3 : Int) (v0_4 : (List Bool)) : Option R :=
    bif decide (v0_3 < (↑(List.length y1.fst.fst) : Int)) then
    bif
        decide ((0 : Int) ≤ bitsI BinOp.andNot IntKind.i64 v0_3 y2.fst.fst) &&
          decide ((bitsI BinOp.andNot IntKind.i64 v0_3 y2.fst.fst).toNat < List.length y1.fst.fst) then
      (lget y1.fst.fst (bitsI BinOp.andNot IntKind.i64 v0_3 y2.fst.fst).toNat).bind fun (y3 : Bool) =>
        bif
            decide ((0 : Int) ≤ bitsI BinOp.or IntKind.i64 v0_3 y2.fst.fst) &&
              decide ((bitsI BinOp.or IntKind.i64 v0_3 y2.fst.fst).toNat < List.length y1.fst.fst) then
          (lget y1.fst.fst (bitsI BinOp.or IntKind.i64 v0_3 y2.fst.fst).toNat).bind fun (y4 : Bool) =>
            (call (122 : Nat) s_impl_SomeDia_1 (y3, y4, ())).bind fun (y5 : (Bool × PUnit) × PUnit) =>
              bif decide ((0 : Int) ≤ v0_3) && decide (v0_3.toNat < v0_4.length) then
                (lget v0_4 v0_3.toNat).bind fun (y6 : Bool) =>
                  r0 (IntKind.i64.wrap (v0_3 + (1 : Int))) (v0_4.set v0_3.toNat y5.fst.fst)
              else none
        else none
    else none
  else
    (call (109 : Nat) s_impl_diaOf (a0.fst, v0_4, ())).bind
      fun (y7 : ((Int × Int × List (Int × Int × Int × PUnit) × PUnit) × PUnit) × PUnit) =>
      some (((y7.fst.fst.fst, y7.fst.fst.snd.fst, y7.fst.fst.snd.snd.fst, y7.fst.fst.snd.snd.snd), true, ()), ())
def L0 (call : Cl) (k : Nat) (a0 : (Int × (Int × ((List (Int × (Int × (Int × Unit)))) × Unit)))) (y1 : (((List Bool) × Unit) × Unit)) (y2 : ((Int × Unit) × Unit))  : Nat → (Int) → ((List Bool)) → Option R
    | 0, _, _ => none
    | n + 1, v0_3, v0_4 => step0 call k a0 y1 y2   (L0 call k a0 y1 y2  n) v0_3 v0_4
def Fm (call : Cl) (k : Nat) (l0 : ((Int × (Int × ((List (Int × (Int × (Int × Unit)))) × Unit)))) → ((((List Bool) × Unit) × Unit)) → (((Int × Unit) × Unit)) → (Int) → ((List Bool)) → Option R) (a0 : (Int × (Int × ((List (Int × (Int × (Int × Unit)))) × Unit)))) (a1 : Int) (a2 : Unit) : Option R :=
    (call (46 : Nat) s_impl_DiaOk (a0, ())).bind fun (y0 : (Bool × PUnit) × PUnit) =>
    bif !y0.fst.fst then some ((((0 : Int), (0 : Int), [], ()), false, ()), ())
    else
      bif decide (a1 < (0 : Int)) then some ((((0 : Int), (0 : Int), [], ()), false, ()), ())
      else
        bif decide (a1 ≥ a0.fst) then some ((((0 : Int), (0 : Int), [], ()), false, ()), ())
        else
          (call (110 : Nat) s_impl_tableOf (a0, ())).bind fun (y1 : (List Bool × PUnit) × PUnit) =>
            (call (154 : Nat) s_impl_weight (a0.fst, a1, ())).bind fun (y2 : (Int × PUnit) × PUnit) =>
              bif
                  decide ((↑(List.length y1.fst.fst) : Int) = (↑(List.length y1.fst.fst) : Int)) &&
                      decide ((0 : Int) ≤ (↑(List.length y1.fst.fst) : Int)) &&
                    decide ((↑(List.length y1.fst.fst) : Int) * (↑ti4.bytes : Int) ≤ (281474976710656 : Int)) then
                l0 a0 y1 y2 (0 : Int) (List.replicate (↑(List.length y1.fst.fst) : Int).toNat false)
              else none
def F (call : Cl) (k : Nat) (a0 : (Int × (Int × ((List (Int × (Int × (Int × Unit)))) × Unit)))) (a1 : Int) (a2 : Unit) : Option R := Fm call k (fun a0_ y1_ y2_ v0_3_ v0_4_ => L0 call k a0_ y1_ y2_ k v0_3_ v0_4_) a0 a1 a2
theorem L0_eq (call : Cl) (k : Nat) (J : Nat → St → Option R) (a0 : Y4_0) (a1 : Int) (a2 : Unit) (y1 : Y4_1) (y2 : ((Int × Unit) × Unit)) : ∀ (n : Nat) (x : Y4_2), siteI E call n_impl_withoutBit__impl_SomeDia_1 k s_impl_withoutBit__impl_SomeDia_1 (a0, a1, a2, ()) J 0 n (S0 a0 y1 y2 x.1 x.2) = L0 call k a0 y1 y2  n x.1 x.2 := by
  refine loop_eq (E := E) (call := call) (f := n_impl_withoutBit__impl_SomeDia_1) (k := k) (s := s_impl_withoutBit__impl_SomeDia_1) (l := (a0, a1, a2, ())) (J := J) (i := 0) (X := Y4_2) (fun x => S0 a0 y1 y2 x.1 x.2) (fun n x => L0 call k a0 y1 y2  n x.1 x.2) (fun r x => step0 call k a0 y1 y2   (fun v0_3 v0_4 => r (v0_3, v0_4)) x.1 x.2) ?_ ?_ ?_
  · intro x; rfl
  · intro n x; rfl
  intro J0 x
  kernel_rfl
theorem F_eq (call : Cl) (k : Nat) (a0 : Y4_0) (a1 : Int) (a2 : Unit) : bodyK E call n_impl_withoutBit__impl_SomeDia_1 k s_impl_withoutBit__impl_SomeDia_1 (a0, a1, a2, ()) = F call k a0 a1 a2 := by
  exact Eq.trans (b := Fm call k (fun a0 y1 y2 v0_3_ v0_4_ => siteI E call n_impl_withoutBit__impl_SomeDia_1 k s_impl_withoutBit__impl_SomeDia_1 (a0, a1, a2, ()) (fun _ _ => none) 0 k (S0 a0 y1 y2 v0_3_ v0_4_)) a0 a1 a2) (by kernel_rfl) (congrArg (fun l => Fm call k l a0 a1 a2) (funext fun a0 => funext fun y1 => funext fun y2 => funext fun v0_3_ => funext fun v0_4_ => L0_eq call k (fun _ _ => none) a0 a1 a2 y1 y2 k (v0_3_, v0_4_)))
end impl_withoutBit__impl_SomeDia_1
/-! #### impl_SomeDia -/
namespace impl_SomeDia
abbrev R := (((Int × (Int × ((List (Int × (Int × (Int × Unit)))) × Unit))) × (Bool × Unit)) × Unit)
def Fm (call : Cl) (k : Nat)  (a0 : (Int × (Int × ((List (Int × (Int × (Int × Unit)))) × Unit)))) (a1 : Int) : Option R :=
    (call (12300118 : Nat) s_impl_withoutBit__impl_SomeDia_1 (a0, a1, (), ())).bind
    fun (y0 : ((Int × Int × List (Int × Int × Int × PUnit) × PUnit) × Bool × PUnit) × PUnit) =>
    some (((y0.fst.fst.fst, y0.fst.fst.snd.fst, y0.fst.fst.snd.snd.fst, y0.fst.fst.snd.snd.snd), y0.fst.snd.fst, ()), ())
def F (call : Cl) (k : Nat) (a0 : (Int × (Int × ((List (Int × (Int × (Int × Unit)))) × Unit)))) (a1 : Int) : Option R := Fm call k  a0 a1
theorem F_eq (call : Cl) (k : Nat) (a0 : Y4_0) (a1 : Int) : bodyK E call n_impl_SomeDia k s_impl_SomeDia (a0, a1, ()) = F call k a0 a1 := by
  kernel_rfl
end impl_SomeDia
end Go.Proofs.Ytcmgjdmhemfecaa.Pf
