/- Printed texts: what the reading of these functions is. No condition. -/
import Derived.Test.YtcmgjdmhemfecaaPvEnv
import Derived.KernelRfl
set_option linter.unusedVariables false
namespace Go.Proofs.Ytcmgjdmhemfecaa.Pf
open Go Go.Pv
abbrev Y5_0 := (Int × (Int × ((List (Int × (Int × (Int × Unit)))) × Unit)))
/-! #### laws_picture -/
namespace laws_picture
abbrev R := (((Int × (Int × ((List (Int × (Int × (Int × Unit)))) × Unit))) × Unit) × (((List Int) × (Int × (Int × Unit))) × Unit))
def S0 (a1 : Int) (v0_1 : Int) (v0_2 : (List (Int × (Int × (Int × Unit))))) (v0_3 : Int) (v0_4 : Int) (v0_8 : (List Int)) (v0_9 : Int) (v0_10 : Int) : St := ⟨mkS 63 [(0, .p [0] [] 0), (1, .v (.int .i64) (a1)), (2, .v (.int .i64) v0_1), (6, .p [6] [] 0), (7, .p [7] [] 0)], [([7, 5, 1, 1, 0], .list 92 (.pair (.int .i64) (.pair (.int .i64) (.pair (.int .i64) .unit))) v0_2), ([7], .box (.pr (.v (.int .i64) v0_3) (.pr (.v (.int .i64) v0_4) (.pr (.ref [7, 5, 1, 1, 0]) (.v .unit ()))))), ([6, 5, 1, 1, 0], .list 92 (.pair (.int .i64) (.pair (.int .i64) (.pair (.int .i64) .unit))) ([])), ([6], .box (.pr (.v (.int .i64) ((0 : Int))) (.pr (.v (.int .i64) ((0 : Int))) (.pr (.ref [6, 5, 1, 1, 0]) (.v .unit ()))))), ([0], .box (.v (.pair (.slc (.int .u8)) (.pair (.int .i64) (.pair (.int .u64) .unit))) (v0_8, (v0_9, (v0_10, ())))))]⟩
def step0 (call : Cl) (k : Nat) (a1 : Int)   (r0 : (Int) → ((List (Int × (Int × (Int × Unit))))) → (Int) → (Int) → ((List Int)) → (Int) → (Int) → Option R) (v0_1 : Int) (v0_2 : (List (Int × (Int × (Int × Unit))))) (v0_3 : Int) (v0_4 : Int) (v0_8 : (List Int)) (v0_9 : Int) (v0_10 : Int) : Option R :=
    bif decide (v0_1 > (0 : Int)) then
    (call (55 : Nat) s_laws_dice_below ((v0_8, v0_9, v0_10, ()), a1, ())).bind
      fun (y2 : (Int × PUnit) × (List Int × Int × Int × PUnit) × PUnit) =>
      (call (26 : Nat) s_impl_VarDia (a1, y2.fst.fst, ())).bind
        fun (y3 : ((Int × Int × List (Int × Int × Int × PUnit) × PUnit) × Bool × PUnit) × PUnit) =>
        (call (55 : Nat) s_laws_dice_below
              ((y2.snd.fst.fst, y2.snd.fst.snd.fst, y2.snd.fst.snd.snd.fst, y2.snd.fst.snd.snd.snd), (4 : Int), ())).bind
          fun (y4 : (Int × PUnit) × (List Int × Int × Int × PUnit) × PUnit) =>
          bif y4.fst.fst == (0 : Int) then
            (call (58 : Nat) s_impl_AndDia
                  ((v0_3, v0_4, v0_2, ()),
                    (y3.fst.fst.fst, y3.fst.fst.snd.fst, y3.fst.fst.snd.snd.fst, y3.fst.fst.snd.snd.snd), ())).bind
              fun (y5 : ((Int × Int × List (Int × Int × Int × PUnit) × PUnit) × Bool × PUnit) × PUnit) =>
              r0 (IntKind.i64.wrap (v0_1 - (1 : Int))) y5.fst.fst.snd.snd.fst y5.fst.fst.fst y5.fst.fst.snd.fst
                y4.snd.fst.fst y4.snd.fst.snd.fst y4.snd.fst.snd.snd.fst
          else
            bif y4.fst.fst == (1 : Int) then
              (call (57 : Nat) s_impl_OrDia
                    ((v0_3, v0_4, v0_2, ()),
                      (y3.fst.fst.fst, y3.fst.fst.snd.fst, y3.fst.fst.snd.snd.fst, y3.fst.fst.snd.snd.snd), ())).bind
                fun (y6 : ((Int × Int × List (Int × Int × Int × PUnit) × PUnit) × Bool × PUnit) × PUnit) =>
                r0 (IntKind.i64.wrap (v0_1 - (1 : Int))) y6.fst.fst.snd.snd.fst y6.fst.fst.fst y6.fst.fst.snd.fst
                  y4.snd.fst.fst y4.snd.fst.snd.fst y4.snd.fst.snd.snd.fst
            else
              bif y4.fst.fst == (2 : Int) then
                (call (59 : Nat) s_impl_NotDia ((v0_3, v0_4, v0_2, ()), ())).bind
                  fun (y7 : ((Int × Int × List (Int × Int × Int × PUnit) × PUnit) × PUnit) × PUnit) =>
                  r0 (IntKind.i64.wrap (v0_1 - (1 : Int))) y7.fst.fst.snd.snd.fst y7.fst.fst.fst y7.fst.fst.snd.fst
                    y4.snd.fst.fst y4.snd.fst.snd.fst y4.snd.fst.snd.snd.fst
              else
                bif y4.fst.fst == (3 : Int) then
                  (call (59 : Nat) s_impl_NotDia ((v0_3, v0_4, v0_2, ()), ())).bind
                    fun (y8 : ((Int × Int × List (Int × Int × Int × PUnit) × PUnit) × PUnit) × PUnit) =>
                    (call (57 : Nat) s_impl_OrDia
                          ((y8.fst.fst.fst, y8.fst.fst.snd.fst, y8.fst.fst.snd.snd.fst, y8.fst.fst.snd.snd.snd),
                            (y3.fst.fst.fst, y3.fst.fst.snd.fst, y3.fst.fst.snd.snd.fst, y3.fst.fst.snd.snd.snd),
                            ())).bind
                      fun (y9 : ((Int × Int × List (Int × Int × Int × PUnit) × PUnit) × Bool × PUnit) × PUnit) =>
                      r0 (IntKind.i64.wrap (v0_1 - (1 : Int))) y9.fst.fst.snd.snd.fst y9.fst.fst.fst y9.fst.fst.snd.fst
                        y4.snd.fst.fst y4.snd.fst.snd.fst y4.snd.fst.snd.snd.fst
                else
                  r0 (IntKind.i64.wrap (v0_1 - (1 : Int))) v0_2 v0_3 v0_4 y4.snd.fst.fst y4.snd.fst.snd.fst
                    y4.snd.fst.snd.snd.fst
  else some (((v0_3, v0_4, v0_2, ()), ()), (v0_8, v0_9, v0_10, ()), ())
def L0 (call : Cl) (k : Nat) (a1 : Int)  : Nat → (Int) → ((List (Int × (Int × (Int × Unit))))) → (Int) → (Int) → ((List Int)) → (Int) → (Int) → Option R
    | 0, _, _, _, _, _, _, _ => none
    | n + 1, v0_1, v0_2, v0_3, v0_4, v0_8, v0_9, v0_10 => step0 call k a1   (L0 call k a1  n) v0_1 v0_2 v0_3 v0_4 v0_8 v0_9 v0_10
def Fm (call : Cl) (k : Nat) (l0 : (Int) → (Int) → ((List (Int × (Int × (Int × Unit))))) → (Int) → (Int) → ((List Int)) → (Int) → (Int) → Option R) (a0 : ((List Int) × (Int × (Int × Unit)))) (a1 : Int) (a2 : Int) : Option R :=
    (call (55 : Nat) s_laws_dice_below ((a0.fst, a0.snd.fst, a0.snd.snd.fst, a0.snd.snd.snd), a1, ())).bind
    fun (y0 : (Int × PUnit) × (List Int × Int × Int × PUnit) × PUnit) =>
    (call (26 : Nat) s_impl_VarDia (a1, y0.fst.fst, ())).bind
      fun (y1 : ((Int × Int × List (Int × Int × Int × PUnit) × PUnit) × Bool × PUnit) × PUnit) =>
      l0 a1 a2 y1.fst.fst.snd.snd.fst y1.fst.fst.fst y1.fst.fst.snd.fst y0.snd.fst.fst y0.snd.fst.snd.fst
        y0.snd.fst.snd.snd.fst
def F (call : Cl) (k : Nat) (a0 : ((List Int) × (Int × (Int × Unit)))) (a1 : Int) (a2 : Int) : Option R := Fm call k (fun a1_ v0_1_ v0_2_ v0_3_ v0_4_ v0_8_ v0_9_ v0_10_ => L0 call k a1_ k v0_1_ v0_2_ v0_3_ v0_4_ v0_8_ v0_9_ v0_10_) a0 a1 a2
theorem L0_eq (call : Cl) (k : Nat) (J : Nat → St → Option R) (a0 : ((List Int) × (Int × (Int × Unit)))) (a1 : Int) (a2 : Int) : ∀ (n : Nat) (x : ((Int) × ((List (Int × (Int × (Int × Unit))))) × (Int) × (Int) × ((List Int)) × (Int) × (Int))), siteI E call n_laws_picture k s_laws_picture (a0, a1, a2, ()) J 0 n (S0 a1 x.1 x.2.1 x.2.2.1 x.2.2.2.1 x.2.2.2.2.1 x.2.2.2.2.2.1 x.2.2.2.2.2.2) = L0 call k a1  n x.1 x.2.1 x.2.2.1 x.2.2.2.1 x.2.2.2.2.1 x.2.2.2.2.2.1 x.2.2.2.2.2.2 := by
  refine loop_eq (E := E) (call := call) (f := n_laws_picture) (k := k) (s := s_laws_picture) (l := (a0, a1, a2, ())) (J := J) (i := 0) (X := ((Int) × ((List (Int × (Int × (Int × Unit))))) × (Int) × (Int) × ((List Int)) × (Int) × (Int))) (fun x => S0 a1 x.1 x.2.1 x.2.2.1 x.2.2.2.1 x.2.2.2.2.1 x.2.2.2.2.2.1 x.2.2.2.2.2.2) (fun n x => L0 call k a1  n x.1 x.2.1 x.2.2.1 x.2.2.2.1 x.2.2.2.2.1 x.2.2.2.2.2.1 x.2.2.2.2.2.2) (fun r x => step0 call k a1   (fun v0_1 v0_2 v0_3 v0_4 v0_8 v0_9 v0_10 => r (v0_1, v0_2, v0_3, v0_4, v0_8, v0_9, v0_10)) x.1 x.2.1 x.2.2.1 x.2.2.2.1 x.2.2.2.2.1 x.2.2.2.2.2.1 x.2.2.2.2.2.2) ?_ ?_ ?_
  · intro x; rfl
  · intro n x; rfl
  intro J0 x
  kernel_rfl
theorem F_eq (call : Cl) (k : Nat) (a0 : ((List Int) × (Int × (Int × Unit)))) (a1 : Int) (a2 : Int) : bodyK E call n_laws_picture k s_laws_picture (a0, a1, a2, ()) = F call k a0 a1 a2 := by
  exact Eq.trans (b := Fm call k (fun a1 v0_1_ v0_2_ v0_3_ v0_4_ v0_8_ v0_9_ v0_10_ => siteI E call n_laws_picture k s_laws_picture (a0, a1, a2, ()) (fun _ _ => none) 0 k (S0 a1 v0_1_ v0_2_ v0_3_ v0_4_ v0_8_ v0_9_ v0_10_)) a0 a1 a2) (by kernel_rfl) (congrArg (fun l => Fm call k l a0 a1 a2) (funext fun a1 => funext fun v0_1_ => funext fun v0_2_ => funext fun v0_3_ => funext fun v0_4_ => funext fun v0_8_ => funext fun v0_9_ => funext fun v0_10_ => L0_eq call k (fun _ _ => none) a0 a1 a2 k (v0_1_, v0_2_, v0_3_, v0_4_, v0_8_, v0_9_, v0_10_)))
end laws_picture
/-! #### impl_VarDia -/
namespace impl_VarDia
abbrev R := (((Int × (Int × ((List (Int × (Int × (Int × Unit)))) × Unit))) × (Bool × Unit)) × Unit)
def Fm (call : Cl) (k : Nat)  (a0 : Int) (a1 : Int) : Option R :=
    bif decide (a0 < (0 : Int)) then some ((((0 : Int), (0 : Int), [], ()), false, ()), ())
  else
    bif decide (a0 > (10 : Int)) then some ((((0 : Int), (0 : Int), [], ()), false, ()), ())
    else
      bif decide (a1 < (0 : Int)) then some ((((0 : Int), (0 : Int), [], ()), false, ()), ())
      else
        bif decide (a1 ≥ a0) then some ((((0 : Int), (0 : Int), [], ()), false, ()), ())
        else some (((a0, (2 : Int), [(a1, (0 : Int), (1 : Int), ())], ()), true, ()), ())
def F (call : Cl) (k : Nat) (a0 : Int) (a1 : Int) : Option R := Fm call k  a0 a1
theorem F_eq (call : Cl) (k : Nat) (a0 : Int) (a1 : Int) : bodyK E call n_impl_VarDia k s_impl_VarDia (a0, a1, ()) = F call k a0 a1 := by
  kernel_rfl
end impl_VarDia
/-! #### impl_ConstDia -/
namespace impl_ConstDia
abbrev R := (((Int × (Int × ((List (Int × (Int × (Int × Unit)))) × Unit))) × (Bool × Unit)) × Unit)
def Fm (call : Cl) (k : Nat)  (a0 : Int) (a1 : Bool) : Option R :=
    bif decide (a0 < (0 : Int)) then some ((((0 : Int), (0 : Int), [], ()), false, ()), ())
  else
    bif decide (a0 > (10 : Int)) then some ((((0 : Int), (0 : Int), [], ()), false, ()), ())
    else
      (call (93 : Nat) s_impl_truth (a1, ())).bind fun (y0 : (Int × PUnit) × PUnit) =>
        some (((a0, y0.fst.fst, [], ()), true, ()), ())
def F (call : Cl) (k : Nat) (a0 : Int) (a1 : Bool) : Option R := Fm call k  a0 a1
theorem F_eq (call : Cl) (k : Nat) (a0 : Int) (a1 : Bool) : bodyK E call n_impl_ConstDia k s_impl_ConstDia (a0, a1, ()) = F call k a0 a1 := by
  kernel_rfl
end impl_ConstDia
/-! #### laws_likeDia -/
namespace laws_likeDia
abbrev R := ((Bool × Unit) × Unit)
def S0 (a0 : Y5_0) (a1 : Y5_0) (v0_0 : Int) : St := ⟨mkS 45 [(2, .p [2] [] 0), (3, .p [3] [] 0), (5, .v (.int .i64) v0_0)], [([3], .box (.v (.pair (.int .i64) (.pair (.int .i64) (.pair (.slc (.pair (.int .i64) (.pair (.int .i64) (.pair (.int .i64) .unit)))) .unit))) ((a1.fst), ((a1.snd.fst), ((a1.snd.snd.fst), ()))))), ([2], .box (.v (.pair (.int .i64) (.pair (.int .i64) (.pair (.slc (.pair (.int .i64) (.pair (.int .i64) (.pair (.int .i64) .unit)))) .unit))) ((a0.fst), ((a0.snd.fst), ((a0.snd.snd.fst), ())))))]⟩
def step0 (call : Cl) (k : Nat) (a0 : (Int × (Int × ((List (Int × (Int × (Int × Unit)))) × Unit)))) (a1 : (Int × (Int × ((List (Int × (Int × (Int × Unit)))) × Unit))))   (r0 : (Int) → Option R) (v0_0 : Int) : Option R :=
    bif decide (v0_0 < (↑a0.snd.snd.fst.length : Int)) then
    bif decide ((0 : Int) ≤ v0_0) then
      (lget a0.snd.snd.fst v0_0.toNat).bind fun (y0 : Int × Int × Int × PUnit) =>
        bif decide ((0 : Int) ≤ v0_0) then
          (lget a1.snd.snd.fst v0_0.toNat).bind fun (y1 : Int × Int × Int × PUnit) =>
            bif
                !eqV ((Ty.int IntKind.i64).pair ((Ty.int IntKind.i64).pair ((Ty.int IntKind.i64).pair Ty.unit))) y0
                    y1 then
              some ((false, ()), ())
            else r0 (IntKind.i64.wrap (v0_0 + (1 : Int)))
        else none
    else none
  else some ((true, ()), ())
def L0 (call : Cl) (k : Nat) (a0 : (Int × (Int × ((List (Int × (Int × (Int × Unit)))) × Unit)))) (a1 : (Int × (Int × ((List (Int × (Int × (Int × Unit)))) × Unit))))  : Nat → (Int) → Option R
    | 0, _ => none
    | n + 1, v0_0 => step0 call k a0 a1   (L0 call k a0 a1  n) v0_0
def Fm (call : Cl) (k : Nat) (l0 : ((Int × (Int × ((List (Int × (Int × (Int × Unit)))) × Unit)))) → ((Int × (Int × ((List (Int × (Int × (Int × Unit)))) × Unit)))) → (Int) → Option R) (a0 : (Int × (Int × ((List (Int × (Int × (Int × Unit)))) × Unit)))) (a1 : (Int × (Int × ((List (Int × (Int × (Int × Unit)))) × Unit)))) : Option R :=
    bif a0.fst != a1.fst then some ((false, ()), ())
  else
    bif a0.snd.fst != a1.snd.fst then some ((false, ()), ())
    else
      bif (↑(List.length a0.snd.snd.fst) : Int) != (↑(List.length a1.snd.snd.fst) : Int) then some ((false, ()), ())
      else l0 a0 a1 (0 : Int)
def F (call : Cl) (k : Nat) (a0 : (Int × (Int × ((List (Int × (Int × (Int × Unit)))) × Unit)))) (a1 : (Int × (Int × ((List (Int × (Int × (Int × Unit)))) × Unit)))) : Option R := Fm call k (fun a0_ a1_ v0_0_ => L0 call k a0_ a1_ k v0_0_) a0 a1
theorem L0_eq (call : Cl) (k : Nat) (J : Nat → St → Option R) (a0 : Y5_0) (a1 : Y5_0) : ∀ (n : Nat) (x : (Int)), siteI E call n_laws_likeDia k s_laws_likeDia (a0, a1, ()) J 0 n (S0 a0 a1 x) = L0 call k a0 a1  n x := by
  refine loop_eq (E := E) (call := call) (f := n_laws_likeDia) (k := k) (s := s_laws_likeDia) (l := (a0, a1, ())) (J := J) (i := 0) (X := (Int)) (fun x => S0 a0 a1 x) (fun n x => L0 call k a0 a1  n x) (fun r x => step0 call k a0 a1   (fun v0_0 => r v0_0) x) ?_ ?_ ?_
  · intro x; rfl
  · intro n x; rfl
  intro J0 x
  kernel_rfl
theorem F_eq (call : Cl) (k : Nat) (a0 : Y5_0) (a1 : Y5_0) : bodyK E call n_laws_likeDia k s_laws_likeDia (a0, a1, ()) = F call k a0 a1 := by
  exact Eq.trans (b := Fm call k (fun a0 a1 v0_0_ => siteI E call n_laws_likeDia k s_laws_likeDia (a0, a1, ()) (fun _ _ => none) 0 k (S0 a0 a1 v0_0_)) a0 a1) (by kernel_rfl) (congrArg (fun l => Fm call k l a0 a1) (funext fun a0 => funext fun a1 => funext fun v0_0_ => L0_eq call k (fun _ _ => none) a0 a1 k v0_0_))
end laws_likeDia
/-! #### laws_bitsOf -/
namespace laws_bitsOf
abbrev R := (((List Bool) × Unit) × Unit)
def S0 (a0 : Int) (a1 : Int) (v0_2 : Int) (v0_3 : (List Bool)) : St := ⟨mkS 23 [(0, .v (.int .i64) (a0)), (1, .v (.int .i64) (a1)), (5, .ref [5]), (6, .v (.int .i64) v0_2)], [([5], .list 4 .bool v0_3)]⟩
def step0 (call : Cl) (k : Nat) (a0 : Int) (a1 : Int)   (r0 : (Int) → ((List Bool)) → Option R) (v0_2 : Int) (v0_3 : (List Bool)) : Option R :=
    bif decide (v0_2 < a0) then
    bif decide (v0_2 < (0 : Int)) then none
    else
      bif decide ((0 : Int) ≤ v0_2) && decide (v0_2.toNat < v0_3.length) then
        (lget v0_3 v0_2.toNat).bind fun (y0 : Bool) =>
          r0 (IntKind.i64.wrap (v0_2 + (1 : Int)))
            (v0_3.set v0_2.toNat (bitsI BinOp.and IntKind.i64 (shrI IntKind.i64 a1 v0_2) (1 : Int) == (1 : Int)))
      else none
  else some ((v0_3, ()), ())
def L0 (call : Cl) (k : Nat) (a0 : Int) (a1 : Int)  : Nat → (Int) → ((List Bool)) → Option R
    | 0, _, _ => none
    | n + 1, v0_2, v0_3 => step0 call k a0 a1   (L0 call k a0 a1  n) v0_2 v0_3
def Fm (call : Cl) (k : Nat) (l0 : (Int) → (Int) → (Int) → ((List Bool)) → Option R) (a0 : Int) (a1 : Int) : Option R :=
    bif decide (a0 = a0) && decide ((0 : Int) ≤ a0) && decide (a0 * (↑ti4.bytes : Int) ≤ (281474976710656 : Int)) then
    l0 a0 a1 (0 : Int) (List.replicate a0.toNat false)
  else none
def F (call : Cl) (k : Nat) (a0 : Int) (a1 : Int) : Option R := Fm call k (fun a0_ a1_ v0_2_ v0_3_ => L0 call k a0_ a1_ k v0_2_ v0_3_) a0 a1
theorem L0_eq (call : Cl) (k : Nat) (J : Nat → St → Option R) (a0 : Int) (a1 : Int) : ∀ (n : Nat) (x : ((Int) × ((List Bool)))), siteI E call n_laws_bitsOf k s_laws_bitsOf (a0, a1, ()) J 0 n (S0 a0 a1 x.1 x.2) = L0 call k a0 a1  n x.1 x.2 := by
  refine loop_eq (E := E) (call := call) (f := n_laws_bitsOf) (k := k) (s := s_laws_bitsOf) (l := (a0, a1, ())) (J := J) (i := 0) (X := ((Int) × ((List Bool)))) (fun x => S0 a0 a1 x.1 x.2) (fun n x => L0 call k a0 a1  n x.1 x.2) (fun r x => step0 call k a0 a1   (fun v0_2 v0_3 => r (v0_2, v0_3)) x.1 x.2) ?_ ?_ ?_
  · intro x; rfl
  · intro n x; rfl
  intro J0 x
  kernel_rfl
theorem F_eq (call : Cl) (k : Nat) (a0 : Int) (a1 : Int) : bodyK E call n_laws_bitsOf k s_laws_bitsOf (a0, a1, ()) = F call k a0 a1 := by
  exact Eq.trans (b := Fm call k (fun a0 a1 v0_2_ v0_3_ => siteI E call n_laws_bitsOf k s_laws_bitsOf (a0, a1, ()) (fun _ _ => none) 0 k (S0 a0 a1 v0_2_ v0_3_)) a0 a1) (by kernel_rfl) (congrArg (fun l => Fm call k l a0 a1) (funext fun a0 => funext fun a1 => funext fun v0_2_ => funext fun v0_3_ => L0_eq call k (fun _ _ => none) a0 a1 k (v0_2_, v0_3_)))
end laws_bitsOf
end Go.Proofs.Ytcmgjdmhemfecaa.Pf
