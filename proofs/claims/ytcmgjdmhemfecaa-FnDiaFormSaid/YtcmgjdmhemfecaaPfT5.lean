/- Printed texts: what the reading of these functions is. No condition. -/
import Derived.Test.YtcmgjdmhemfecaaPvEnv
import Derived.KernelRfl
set_option linter.unusedVariables false
namespace Go.Proofs.Ytcmgjdmhemfecaa.Pf
open Go Go.Pv
/-! #### laws_big -/
namespace laws_big
abbrev R := ((Bool × Unit) × Unit)
def Fm (call : Cl) (k : Nat)  (a0 : (List Int)) : Option R :=
    some ((decide ((↑a0.length : Int) > (4096 : Int)), ()), ())
def F (call : Cl) (k : Nat) (a0 : (List Int)) : Option R := Fm call k  a0
theorem F_eq (call : Cl) (k : Nat) (a0 : (List Int)) : bodyK E call n_laws_big k s_laws_big (a0, ()) = F call k a0 := by
  kernel_rfl
end laws_big
/-! #### laws_roll -/
namespace laws_roll
abbrev R := ((((List Int) × (Int × (Int × Unit))) × Unit) × Unit)
def S0 (a0 : (List Int)) (v0_1 : Int) (v0_4 : Int) : St := ⟨mkS 38 [(0, .v (.slc (.int .u8)) (a0)), (5, .p [5] [] 0), (6, .v (.int .i64) v0_1)], [([5], .box (.v (.pair (.slc (.int .u8)) (.pair (.int .i64) (.pair (.int .u64) .unit))) ((a0), (((0 : Int)), (v0_4, ())))))]⟩
def step0 (call : Cl) (k : Nat) (a0 : (List Int))   (r0 : (Int) → (Int) → Option R) (v0_1 : Int) (v0_4 : Int) : Option R :=
    bif decide (v0_1 < (↑a0.length : Int)) then
    bif decide ((0 : Int) ≤ v0_1) then
      (lget a0 v0_1.toNat).bind fun (y0 : Int) =>
        r0 (IntKind.i64.wrap (v0_1 + (1 : Int)))
          (IntKind.u64.wrap
            (IntKind.u64.wrap (IntKind.u64.wrap (v0_4 * (1099511628211 : Int)) + IntKind.u64.wrap y0) + (3 : Int)))
    else none
  else some (((a0, (0 : Int), v0_4, ()), ()), ())
def L0 (call : Cl) (k : Nat) (a0 : (List Int))  : Nat → (Int) → (Int) → Option R
    | 0, _, _ => none
    | n + 1, v0_1, v0_4 => step0 call k a0   (L0 call k a0  n) v0_1 v0_4
def Fm (call : Cl) (k : Nat) (l0 : ((List Int)) → (Int) → (Int) → Option R) (a0 : (List Int)) (a1 : Int) : Option R :=
    l0 a0 (0 : Int) (IntKind.u64.wrap (IntKind.u64.wrap (a1 * (7919 : Int)) + IntKind.u64.wrap (↑a0.length : Int)))
def F (call : Cl) (k : Nat) (a0 : (List Int)) (a1 : Int) : Option R := Fm call k (fun a0_ v0_1_ v0_4_ => L0 call k a0_ k v0_1_ v0_4_) a0 a1
theorem L0_eq (call : Cl) (k : Nat) (J : Nat → St → Option R) (a0 : (List Int)) (a1 : Int) : ∀ (n : Nat) (x : ((Int) × (Int))), siteI E call n_laws_roll k s_laws_roll (a0, a1, ()) J 0 n (S0 a0 x.1 x.2) = L0 call k a0  n x.1 x.2 := by
  refine loop_eq (E := E) (call := call) (f := n_laws_roll) (k := k) (s := s_laws_roll) (l := (a0, a1, ())) (J := J) (i := 0) (X := ((Int) × (Int))) (fun x => S0 a0 x.1 x.2) (fun n x => L0 call k a0  n x.1 x.2) (fun r x => step0 call k a0   (fun v0_1 v0_4 => r (v0_1, v0_4)) x.1 x.2) ?_ ?_ ?_
  · intro x; rfl
  · intro n x; rfl
  intro J0 x
  kernel_rfl
theorem F_eq (call : Cl) (k : Nat) (a0 : (List Int)) (a1 : Int) : bodyK E call n_laws_roll k s_laws_roll (a0, a1, ()) = F call k a0 a1 := by
  refine Eq.trans (b := Fm call k (fun (a0 : (List Int)) (v0_1_ : Int) (v0_4_ : Int) => siteI E call n_laws_roll k s_laws_roll (a0, a1, ()) (fun _ _ => none) 0 k (S0 a0 v0_1_ v0_4_)) a0 a1) (by kernel_rfl) ?_
  rw [show (fun (a0 : (List Int)) (v0_1_ : Int) (v0_4_ : Int) => siteI E call n_laws_roll k s_laws_roll (a0, a1, ()) (fun _ _ => none) 0 k (S0 a0 v0_1_ v0_4_)) = (fun (a0 : (List Int)) (v0_1_ : Int) (v0_4_ : Int) => L0 call k a0 k v0_1_ v0_4_) from funext fun a0 => funext fun v0_1_ => funext fun v0_4_ => L0_eq call k (fun _ _ => none) a0 a1 k (v0_1_, v0_4_)]
  rfl
end laws_roll
/-! #### laws_dice_below -/
namespace laws_dice_below
abbrev R := ((Int × Unit) × (((List Int) × (Int × (Int × Unit))) × Unit))
def Fm (call : Cl) (k : Nat)  (a0 : ((List Int) × (Int × (Int × Unit)))) (a1 : Int) : Option R :=
    bif decide (a0.snd.fst < (↑(List.length a0.fst) : Int)) then
    bif decide ((0 : Int) ≤ a0.snd.fst) then
      (lget a0.fst (Int.toNat a0.snd.fst)).bind fun (y0 : Int) =>
        bif decide (a1 = (0 : Int)) then none
        else
          some
            (((IntKind.i64.wrap
                      (IntKind.i64.wrap
                          (bitsI BinOp.and IntKind.u64
                            (shrI IntKind.u64
                              (IntKind.u64.wrap
                                (IntKind.u64.wrap (a0.snd.snd.fst * (6364136223846793005 : Int)) +
                                  (1442695040888963407 : Int)))
                              (33 : Int))
                            (16777215 : Int)) +
                        IntKind.i64.wrap y0)).tmod
                  a1,
                ()),
              (a0.fst, IntKind.i64.wrap (a0.snd.fst + (1 : Int)),
                IntKind.u64.wrap
                  (IntKind.u64.wrap (a0.snd.snd.fst * (6364136223846793005 : Int)) + (1442695040888963407 : Int)),
                a0.snd.snd.snd),
              ())
    else none
  else
    bif decide (a1 = (0 : Int)) then none
    else
      some
        (((IntKind.i64.wrap
                  (bitsI BinOp.and IntKind.u64
                    (shrI IntKind.u64
                      (IntKind.u64.wrap
                        (IntKind.u64.wrap (a0.snd.snd.fst * (6364136223846793005 : Int)) + (1442695040888963407 : Int)))
                      (33 : Int))
                    (16777215 : Int))).tmod
              a1,
            ()),
          (a0.fst, a0.snd.fst,
            IntKind.u64.wrap
              (IntKind.u64.wrap (a0.snd.snd.fst * (6364136223846793005 : Int)) + (1442695040888963407 : Int)),
            a0.snd.snd.snd),
          ())
def F (call : Cl) (k : Nat) (a0 : ((List Int) × (Int × (Int × Unit)))) (a1 : Int) : Option R := Fm call k  a0 a1
theorem F_eq (call : Cl) (k : Nat) (a0 : ((List Int) × (Int × (Int × Unit)))) (a1 : Int) : bodyK E call n_laws_dice_below k s_laws_dice_below (a0, a1, ()) = F call k a0 a1 := by
  kernel_rfl
end laws_dice_below
/-! #### laws_picture -/
namespace laws_picture
abbrev R := (((Int × (Int × ((List (Int × (Int × (Int × Unit)))) × Unit))) × Unit) × (((List Int) × (Int × (Int × Unit))) × Unit))
def S0 (a1 : Int) (v0_1 : Int) (v0_2 : (List (Int × (Int × (Int × Unit))))) (v0_3 : Int) (v0_4 : Int) (v0_8 : (List Int)) (v0_9 : Int) (v0_10 : Int) : St := ⟨mkS 63 [(0, .p [0] [] 0), (1, .v (.int .i64) (a1)), (2, .v (.int .i64) v0_1), (6, .p [6] [] 0), (7, .p [7] [] 0)], [([7, 5, 1, 1, 0], .list 92 (.pair (.int .i64) (.pair (.int .i64) (.pair (.int .i64) .unit))) v0_2), ([7], .box (.pr (.v (.int .i64) v0_3) (.pr (.v (.int .i64) v0_4) (.pr (.ref [7, 5, 1, 1, 0]) (.v .unit ()))))), ([6, 5, 1, 1, 0], .list 92 (.pair (.int .i64) (.pair (.int .i64) (.pair (.int .i64) .unit))) ([])), ([6], .box (.pr (.v (.int .i64) ((0 : Int))) (.pr (.v (.int .i64) ((0 : Int))) (.pr (.ref [6, 5, 1, 1, 0]) (.v .unit ()))))), ([0], .box (.v (.pair (.slc (.int .u8)) (.pair (.int .i64) (.pair (.int .u64) .unit))) (v0_8, (v0_9, (v0_10, ())))))]⟩
def step0 (call : Cl) (k : Nat) (a1 : Int)   (r0 : (Int) → ((List (Int × (Int × (Int × Unit))))) → (Int) → (Int) → ((List Int)) → (Int) → (Int) → Option R) (v0_1 : Int) (v0_2 : (List (Int × (Int × (Int × Unit))))) (v0_3 : Int) (v0_4 : Int) (v0_8 : (List Int)) (v0_9 : Int) (v0_10 : Int) : Option R :=
    bif decide (v0_1 > (0 : Int)) then
    (call (55 : Nat) s_laws_dice_below ((v0_8, v0_9, v0_10, ()), a1, ())).bind
      fun (y2 : (Int × PUnit) × (List Int × Int × Int × PUnit) × PUnit) =>
      (call (26 : Nat) s_impl_VarDia (a1, y2.fst.fst, ())).bind
        fun (y3 : ((Int × Int × List (Int × Int × Int × PUnit) × PUnit) × Bool × PUnit) × PUnit) =>
        (call (55 : Nat) s_laws_dice_below
              ((y2.snd.fst.fst, y2.snd.fst.snd.fst, y2.snd.fst.snd.snd.fst, y2.snd.fst.snd.snd.snd), (4 : Int), ())).bind
          fun (y4 : (Int × PUnit) × (List Int × Int × Int × PUnit) × PUnit) =>
          bif y4.fst.fst == (0 : Int) then
            (call (58 : Nat) s_impl_AndDia
                  ((v0_3, v0_4, v0_2, ()),
                    (y3.fst.fst.fst, y3.fst.fst.snd.fst, y3.fst.fst.snd.snd.fst, y3.fst.fst.snd.snd.snd), ())).bind
              fun (y5 : ((Int × Int × List (Int × Int × Int × PUnit) × PUnit) × Bool × PUnit) × PUnit) =>
              r0 (IntKind.i64.wrap (v0_1 - (1 : Int))) y5.fst.fst.snd.snd.fst y5.fst.fst.fst y5.fst.fst.snd.fst
                y4.snd.fst.fst y4.snd.fst.snd.fst y4.snd.fst.snd.snd.fst
          else
            bif y4.fst.fst == (1 : Int) then
              (call (57 : Nat) s_impl_OrDia
                    ((v0_3, v0_4, v0_2, ()),
                      (y3.fst.fst.fst, y3.fst.fst.snd.fst, y3.fst.fst.snd.snd.fst, y3.fst.fst.snd.snd.snd), ())).bind
                fun (y6 : ((Int × Int × List (Int × Int × Int × PUnit) × PUnit) × Bool × PUnit) × PUnit) =>
                r0 (IntKind.i64.wrap (v0_1 - (1 : Int))) y6.fst.fst.snd.snd.fst y6.fst.fst.fst y6.fst.fst.snd.fst
                  y4.snd.fst.fst y4.snd.fst.snd.fst y4.snd.fst.snd.snd.fst
            else
              bif y4.fst.fst == (2 : Int) then
                (call (59 : Nat) s_impl_NotDia ((v0_3, v0_4, v0_2, ()), ())).bind
                  fun (y7 : ((Int × Int × List (Int × Int × Int × PUnit) × PUnit) × PUnit) × PUnit) =>
                  r0 (IntKind.i64.wrap (v0_1 - (1 : Int))) y7.fst.fst.snd.snd.fst y7.fst.fst.fst y7.fst.fst.snd.fst
                    y4.snd.fst.fst y4.snd.fst.snd.fst y4.snd.fst.snd.snd.fst
              else
                bif y4.fst.fst == (3 : Int) then
                  (call (59 : Nat) s_impl_NotDia ((v0_3, v0_4, v0_2, ()), ())).bind
                    fun (y8 : ((Int × Int × List (Int × Int × Int × PUnit) × PUnit) × PUnit) × PUnit) =>
                    (call (57 : Nat) s_impl_OrDia
                          ((y8.fst.fst.fst, y8.fst.fst.snd.fst, y8.fst.fst.snd.snd.fst, y8.fst.fst.snd.snd.snd),
                            (y3.fst.fst.fst, y3.fst.fst.snd.fst, y3.fst.fst.snd.snd.fst, y3.fst.fst.snd.snd.snd),
                            ())).bind
                      fun (y9 : ((Int × Int × List (Int × Int × Int × PUnit) × PUnit) × Bool × PUnit) × PUnit) =>
                      r0 (IntKind.i64.wrap (v0_1 - (1 : Int))) y9.fst.fst.snd.snd.fst y9.fst.fst.fst y9.fst.fst.snd.fst
                        y4.snd.fst.fst y4.snd.fst.snd.fst y4.snd.fst.snd.snd.fst
                else
                  r0 (IntKind.i64.wrap (v0_1 - (1 : Int))) v0_2 v0_3 v0_4 y4.snd.fst.fst y4.snd.fst.snd.fst
                    y4.snd.fst.snd.snd.fst
  else some (((v0_3, v0_4, v0_2, ()), ()), (v0_8, v0_9, v0_10, ()), ())
def L0 (call : Cl) (k : Nat) (a1 : Int)  : Nat → (Int) → ((List (Int × (Int × (Int × Unit))))) → (Int) → (Int) → ((List Int)) → (Int) → (Int) → Option R
    | 0, _, _, _, _, _, _, _ => none
    | n + 1, v0_1, v0_2, v0_3, v0_4, v0_8, v0_9, v0_10 => step0 call k a1   (L0 call k a1  n) v0_1 v0_2 v0_3 v0_4 v0_8 v0_9 v0_10
def Fm (call : Cl) (k : Nat) (l0 : (Int) → (Int) → ((List (Int × (Int × (Int × Unit))))) → (Int) → (Int) → ((List Int)) → (Int) → (Int) → Option R) (a0 : ((List Int) × (Int × (Int × Unit)))) (a1 : Int) (a2 : Int) : Option R :=
    (call (55 : Nat) s_laws_dice_below ((a0.fst, a0.snd.fst, a0.snd.snd.fst, a0.snd.snd.snd), a1, ())).bind
    fun (y0 : (Int × PUnit) × (List Int × Int × Int × PUnit) × PUnit) =>
    (call (26 : Nat) s_impl_VarDia (a1, y0.fst.fst, ())).bind
      fun (y1 : ((Int × Int × List (Int × Int × Int × PUnit) × PUnit) × Bool × PUnit) × PUnit) =>
      l0 a1 a2 y1.fst.fst.snd.snd.fst y1.fst.fst.fst y1.fst.fst.snd.fst y0.snd.fst.fst y0.snd.fst.snd.fst
        y0.snd.fst.snd.snd.fst
def F (call : Cl) (k : Nat) (a0 : ((List Int) × (Int × (Int × Unit)))) (a1 : Int) (a2 : Int) : Option R := Fm call k (fun a1_ v0_1_ v0_2_ v0_3_ v0_4_ v0_8_ v0_9_ v0_10_ => L0 call k a1_ k v0_1_ v0_2_ v0_3_ v0_4_ v0_8_ v0_9_ v0_10_) a0 a1 a2
theorem L0_eq (call : Cl) (k : Nat) (J : Nat → St → Option R) (a0 : ((List Int) × (Int × (Int × Unit)))) (a1 : Int) (a2 : Int) : ∀ (n : Nat) (x : ((Int) × ((List (Int × (Int × (Int × Unit))))) × (Int) × (Int) × ((List Int)) × (Int) × (Int))), siteI E call n_laws_picture k s_laws_picture (a0, a1, a2, ()) J 0 n (S0 a1 x.1 x.2.1 x.2.2.1 x.2.2.2.1 x.2.2.2.2.1 x.2.2.2.2.2.1 x.2.2.2.2.2.2) = L0 call k a1  n x.1 x.2.1 x.2.2.1 x.2.2.2.1 x.2.2.2.2.1 x.2.2.2.2.2.1 x.2.2.2.2.2.2 := by
  refine loop_eq (E := E) (call := call) (f := n_laws_picture) (k := k) (s := s_laws_picture) (l := (a0, a1, a2, ())) (J := J) (i := 0) (X := ((Int) × ((List (Int × (Int × (Int × Unit))))) × (Int) × (Int) × ((List Int)) × (Int) × (Int))) (fun x => S0 a1 x.1 x.2.1 x.2.2.1 x.2.2.2.1 x.2.2.2.2.1 x.2.2.2.2.2.1 x.2.2.2.2.2.2) (fun n x => L0 call k a1  n x.1 x.2.1 x.2.2.1 x.2.2.2.1 x.2.2.2.2.1 x.2.2.2.2.2.1 x.2.2.2.2.2.2) (fun r x => step0 call k a1   (fun v0_1 v0_2 v0_3 v0_4 v0_8 v0_9 v0_10 => r (v0_1, v0_2, v0_3, v0_4, v0_8, v0_9, v0_10)) x.1 x.2.1 x.2.2.1 x.2.2.2.1 x.2.2.2.2.1 x.2.2.2.2.2.1 x.2.2.2.2.2.2) ?_ ?_ ?_
  · intro x; rfl
  · intro n x; rfl
  intro J0 x
  kernel_rfl
theorem F_eq (call : Cl) (k : Nat) (a0 : ((List Int) × (Int × (Int × Unit)))) (a1 : Int) (a2 : Int) : bodyK E call n_laws_picture k s_laws_picture (a0, a1, a2, ()) = F call k a0 a1 a2 := by
  refine Eq.trans (b := Fm call k (fun (a1 : Int) (v0_1_ : Int) (v0_2_ : (List (Int × (Int × (Int × Unit))))) (v0_3_ : Int) (v0_4_ : Int) (v0_8_ : (List Int)) (v0_9_ : Int) (v0_10_ : Int) => siteI E call n_laws_picture k s_laws_picture (a0, a1, a2, ()) (fun _ _ => none) 0 k (S0 a1 v0_1_ v0_2_ v0_3_ v0_4_ v0_8_ v0_9_ v0_10_)) a0 a1 a2) (by kernel_rfl) ?_
  rw [show (fun (a1 : Int) (v0_1_ : Int) (v0_2_ : (List (Int × (Int × (Int × Unit))))) (v0_3_ : Int) (v0_4_ : Int) (v0_8_ : (List Int)) (v0_9_ : Int) (v0_10_ : Int) => siteI E call n_laws_picture k s_laws_picture (a0, a1, a2, ()) (fun _ _ => none) 0 k (S0 a1 v0_1_ v0_2_ v0_3_ v0_4_ v0_8_ v0_9_ v0_10_)) = (fun (a1 : Int) (v0_1_ : Int) (v0_2_ : (List (Int × (Int × (Int × Unit))))) (v0_3_ : Int) (v0_4_ : Int) (v0_8_ : (List Int)) (v0_9_ : Int) (v0_10_ : Int) => L0 call k a1 k v0_1_ v0_2_ v0_3_ v0_4_ v0_8_ v0_9_ v0_10_) from funext fun a1 => funext fun v0_1_ => funext fun v0_2_ => funext fun v0_3_ => funext fun v0_4_ => funext fun v0_8_ => funext fun v0_9_ => funext fun v0_10_ => L0_eq call k (fun _ _ => none) a0 a1 a2 k (v0_1_, v0_2_, v0_3_, v0_4_, v0_8_, v0_9_, v0_10_)]
  rfl
end laws_picture
/-! #### impl_VarDia -/
namespace impl_VarDia
abbrev R := (((Int × (Int × ((List (Int × (Int × (Int × Unit)))) × Unit))) × (Bool × Unit)) × Unit)
def Fm (call : Cl) (k : Nat)  (a0 : Int) (a1 : Int) : Option R :=
    bif decide (a0 < (0 : Int)) then some ((((0 : Int), (0 : Int), [], ()), false, ()), ())
  else
    bif decide (a0 > (10 : Int)) then some ((((0 : Int), (0 : Int), [], ()), false, ()), ())
    else
      bif decide (a1 < (0 : Int)) then some ((((0 : Int), (0 : Int), [], ()), false, ()), ())
      else
        bif decide (a1 ≥ a0) then some ((((0 : Int), (0 : Int), [], ()), false, ()), ())
        else some (((a0, (2 : Int), [(a1, (0 : Int), (1 : Int), ())], ()), true, ()), ())
def F (call : Cl) (k : Nat) (a0 : Int) (a1 : Int) : Option R := Fm call k  a0 a1
theorem F_eq (call : Cl) (k : Nat) (a0 : Int) (a1 : Int) : bodyK E call n_impl_VarDia k s_impl_VarDia (a0, a1, ()) = F call k a0 a1 := by
  kernel_rfl
end impl_VarDia
/-! #### impl_ConstDia -/
namespace impl_ConstDia
abbrev R := (((Int × (Int × ((List (Int × (Int × (Int × Unit)))) × Unit))) × (Bool × Unit)) × Unit)
def Fm (call : Cl) (k : Nat)  (a0 : Int) (a1 : Bool) : Option R :=
    bif decide (a0 < (0 : Int)) then some ((((0 : Int), (0 : Int), [], ()), false, ()), ())
  else
    bif decide (a0 > (10 : Int)) then some ((((0 : Int), (0 : Int), [], ()), false, ()), ())
    else
      (call (93 : Nat) s_impl_truth (a1, ())).bind fun (y0 : (Int × PUnit) × PUnit) =>
        some (((a0, y0.fst.fst, [], ()), true, ()), ())
def F (call : Cl) (k : Nat) (a0 : Int) (a1 : Bool) : Option R := Fm call k  a0 a1
theorem F_eq (call : Cl) (k : Nat) (a0 : Int) (a1 : Bool) : bodyK E call n_impl_ConstDia k s_impl_ConstDia (a0, a1, ()) = F call k a0 a1 := by
  kernel_rfl
end impl_ConstDia
/-! #### laws_likeDia -/
namespace laws_likeDia
abbrev R := ((Bool × Unit) × Unit)
def S0 (a0 : (Int × (Int × ((List (Int × (Int × (Int × Unit)))) × Unit)))) (a1 : (Int × (Int × ((List (Int × (Int × (Int × Unit)))) × Unit)))) (v0_0 : Int) : St := ⟨mkS 45 [(2, .p [2] [] 0), (3, .p [3] [] 0), (5, .v (.int .i64) v0_0)], [([3], .box (.v (.pair (.int .i64) (.pair (.int .i64) (.pair (.slc (.pair (.int .i64) (.pair (.int .i64) (.pair (.int .i64) .unit)))) .unit))) ((a1.fst), ((a1.snd.fst), ((a1.snd.snd.fst), ()))))), ([2], .box (.v (.pair (.int .i64) (.pair (.int .i64) (.pair (.slc (.pair (.int .i64) (.pair (.int .i64) (.pair (.int .i64) .unit)))) .unit))) ((a0.fst), ((a0.snd.fst), ((a0.snd.snd.fst), ())))))]⟩
def step0 (call : Cl) (k : Nat) (a0 : (Int × (Int × ((List (Int × (Int × (Int × Unit)))) × Unit)))) (a1 : (Int × (Int × ((List (Int × (Int × (Int × Unit)))) × Unit))))   (r0 : (Int) → Option R) (v0_0 : Int) : Option R :=
    bif decide (v0_0 < (↑a0.snd.snd.fst.length : Int)) then
    bif decide ((0 : Int) ≤ v0_0) then
      (lget a0.snd.snd.fst v0_0.toNat).bind fun (y0 : Int × Int × Int × PUnit) =>
        bif decide ((0 : Int) ≤ v0_0) then
          (lget a1.snd.snd.fst v0_0.toNat).bind fun (y1 : Int × Int × Int × PUnit) =>
            bif
                !eqV ((Ty.int IntKind.i64).pair ((Ty.int IntKind.i64).pair ((Ty.int IntKind.i64).pair Ty.unit))) y0
                    y1 then
              some ((false, ()), ())
            else r0 (IntKind.i64.wrap (v0_0 + (1 : Int)))
        else none
    else none
  else some ((true, ()), ())
def L0 (call : Cl) (k : Nat) (a0 : (Int × (Int × ((List (Int × (Int × (Int × Unit)))) × Unit)))) (a1 : (Int × (Int × ((List (Int × (Int × (Int × Unit)))) × Unit))))  : Nat → (Int) → Option R
    | 0, _ => none
    | n + 1, v0_0 => step0 call k a0 a1   (L0 call k a0 a1  n) v0_0
def Fm (call : Cl) (k : Nat) (l0 : ((Int × (Int × ((List (Int × (Int × (Int × Unit)))) × Unit)))) → ((Int × (Int × ((List (Int × (Int × (Int × Unit)))) × Unit)))) → (Int) → Option R) (a0 : (Int × (Int × ((List (Int × (Int × (Int × Unit)))) × Unit)))) (a1 : (Int × (Int × ((List (Int × (Int × (Int × Unit)))) × Unit)))) : Option R :=
    bif a0.fst != a1.fst then some ((false, ()), ())
  else
    bif a0.snd.fst != a1.snd.fst then some ((false, ()), ())
    else
      bif (↑(List.length a0.snd.snd.fst) : Int) != (↑(List.length a1.snd.snd.fst) : Int) then some ((false, ()), ())
      else l0 a0 a1 (0 : Int)
def F (call : Cl) (k : Nat) (a0 : (Int × (Int × ((List (Int × (Int × (Int × Unit)))) × Unit)))) (a1 : (Int × (Int × ((List (Int × (Int × (Int × Unit)))) × Unit)))) : Option R := Fm call k (fun a0_ a1_ v0_0_ => L0 call k a0_ a1_ k v0_0_) a0 a1
theorem L0_eq (call : Cl) (k : Nat) (J : Nat → St → Option R) (a0 : (Int × (Int × ((List (Int × (Int × (Int × Unit)))) × Unit)))) (a1 : (Int × (Int × ((List (Int × (Int × (Int × Unit)))) × Unit)))) : ∀ (n : Nat) (x : (Int)), siteI E call n_laws_likeDia k s_laws_likeDia (a0, a1, ()) J 0 n (S0 a0 a1 x) = L0 call k a0 a1  n x := by
  refine loop_eq (E := E) (call := call) (f := n_laws_likeDia) (k := k) (s := s_laws_likeDia) (l := (a0, a1, ())) (J := J) (i := 0) (X := (Int)) (fun x => S0 a0 a1 x) (fun n x => L0 call k a0 a1  n x) (fun r x => step0 call k a0 a1   (fun v0_0 => r v0_0) x) ?_ ?_ ?_
  · intro x; rfl
  · intro n x; rfl
  intro J0 x
  kernel_rfl
theorem F_eq (call : Cl) (k : Nat) (a0 : (Int × (Int × ((List (Int × (Int × (Int × Unit)))) × Unit)))) (a1 : (Int × (Int × ((List (Int × (Int × (Int × Unit)))) × Unit)))) : bodyK E call n_laws_likeDia k s_laws_likeDia (a0, a1, ()) = F call k a0 a1 := by
  refine Eq.trans (b := Fm call k (fun (a0 : (Int × (Int × ((List (Int × (Int × (Int × Unit)))) × Unit)))) (a1 : (Int × (Int × ((List (Int × (Int × (Int × Unit)))) × Unit)))) (v0_0_ : Int) => siteI E call n_laws_likeDia k s_laws_likeDia (a0, a1, ()) (fun _ _ => none) 0 k (S0 a0 a1 v0_0_)) a0 a1) (by kernel_rfl) ?_
  rw [show (fun (a0 : (Int × (Int × ((List (Int × (Int × (Int × Unit)))) × Unit)))) (a1 : (Int × (Int × ((List (Int × (Int × (Int × Unit)))) × Unit)))) (v0_0_ : Int) => siteI E call n_laws_likeDia k s_laws_likeDia (a0, a1, ()) (fun _ _ => none) 0 k (S0 a0 a1 v0_0_)) = (fun (a0 : (Int × (Int × ((List (Int × (Int × (Int × Unit)))) × Unit)))) (a1 : (Int × (Int × ((List (Int × (Int × (Int × Unit)))) × Unit)))) (v0_0_ : Int) => L0 call k a0 a1 k v0_0_) from funext fun a0 => funext fun a1 => funext fun v0_0_ => L0_eq call k (fun _ _ => none) a0 a1 k v0_0_]
  rfl
end laws_likeDia
/-! #### laws_bitsOf -/
namespace laws_bitsOf
abbrev R := (((List Bool) × Unit) × Unit)
def S0 (a0 : Int) (a1 : Int) (v0_2 : Int) (v0_3 : (List Bool)) : St := ⟨mkS 23 [(0, .v (.int .i64) (a0)), (1, .v (.int .i64) (a1)), (5, .ref [5]), (6, .v (.int .i64) v0_2)], [([5], .list 4 .bool v0_3)]⟩
def step0 (call : Cl) (k : Nat) (a0 : Int) (a1 : Int)   (r0 : (Int) → ((List Bool)) → Option R) (v0_2 : Int) (v0_3 : (List Bool)) : Option R :=
    bif decide (v0_2 < a0) then
    bif decide (v0_2 < (0 : Int)) then none
    else
      bif decide ((0 : Int) ≤ v0_2) && decide (v0_2.toNat < v0_3.length) then
        (lget v0_3 v0_2.toNat).bind fun (y0 : Bool) =>
          r0 (IntKind.i64.wrap (v0_2 + (1 : Int)))
            (v0_3.set v0_2.toNat (bitsI BinOp.and IntKind.i64 (shrI IntKind.i64 a1 v0_2) (1 : Int) == (1 : Int)))
      else none
  else some ((v0_3, ()), ())
def L0 (call : Cl) (k : Nat) (a0 : Int) (a1 : Int)  : Nat → (Int) → ((List Bool)) → Option R
    | 0, _, _ => none
    | n + 1, v0_2, v0_3 => step0 call k a0 a1   (L0 call k a0 a1  n) v0_2 v0_3
def Fm (call : Cl) (k : Nat) (l0 : (Int) → (Int) → (Int) → ((List Bool)) → Option R) (a0 : Int) (a1 : Int) : Option R :=
    bif decide (a0 = a0) && decide ((0 : Int) ≤ a0) && decide (a0 * (↑ti4.bytes : Int) ≤ (281474976710656 : Int)) then
    l0 a0 a1 (0 : Int) (List.replicate a0.toNat false)
  else none
def F (call : Cl) (k : Nat) (a0 : Int) (a1 : Int) : Option R := Fm call k (fun a0_ a1_ v0_2_ v0_3_ => L0 call k a0_ a1_ k v0_2_ v0_3_) a0 a1
theorem L0_eq (call : Cl) (k : Nat) (J : Nat → St → Option R) (a0 : Int) (a1 : Int) : ∀ (n : Nat) (x : ((Int) × ((List Bool)))), siteI E call n_laws_bitsOf k s_laws_bitsOf (a0, a1, ()) J 0 n (S0 a0 a1 x.1 x.2) = L0 call k a0 a1  n x.1 x.2 := by
  refine loop_eq (E := E) (call := call) (f := n_laws_bitsOf) (k := k) (s := s_laws_bitsOf) (l := (a0, a1, ())) (J := J) (i := 0) (X := ((Int) × ((List Bool)))) (fun x => S0 a0 a1 x.1 x.2) (fun n x => L0 call k a0 a1  n x.1 x.2) (fun r x => step0 call k a0 a1   (fun v0_2 v0_3 => r (v0_2, v0_3)) x.1 x.2) ?_ ?_ ?_
  · intro x; rfl
  · intro n x; rfl
  intro J0 x
  kernel_rfl
theorem F_eq (call : Cl) (k : Nat) (a0 : Int) (a1 : Int) : bodyK E call n_laws_bitsOf k s_laws_bitsOf (a0, a1, ()) = F call k a0 a1 := by
  refine Eq.trans (b := Fm call k (fun (a0 : Int) (a1 : Int) (v0_2_ : Int) (v0_3_ : (List Bool)) => siteI E call n_laws_bitsOf k s_laws_bitsOf (a0, a1, ()) (fun _ _ => none) 0 k (S0 a0 a1 v0_2_ v0_3_)) a0 a1) (by kernel_rfl) ?_
  rw [show (fun (a0 : Int) (a1 : Int) (v0_2_ : Int) (v0_3_ : (List Bool)) => siteI E call n_laws_bitsOf k s_laws_bitsOf (a0, a1, ()) (fun _ _ => none) 0 k (S0 a0 a1 v0_2_ v0_3_)) = (fun (a0 : Int) (a1 : Int) (v0_2_ : Int) (v0_3_ : (List Bool)) => L0 call k a0 a1 k v0_2_ v0_3_) from funext fun a0 => funext fun a1 => funext fun v0_2_ => funext fun v0_3_ => L0_eq call k (fun _ _ => none) a0 a1 k (v0_2_, v0_3_)]
  rfl
end laws_bitsOf
/-! #### spec_DrawAndDia -/
namespace spec_DrawAndDia
abbrev R := (((Int × (Int × ((List (Int × (Int × (Int × Unit)))) × Unit))) × ((Int × (Int × ((List (Int × (Int × (Int × Unit)))) × Unit))) × Unit)) × Unit)
def Fm (call : Cl) (k : Nat)  (a0 : (List Int)) : Option R :=
    (call (129 : Nat) s_spec_l1New (a0, ())).bind fun (y0 : ((List Int × Int × Int × PUnit) × PUnit) × PUnit) =>
    (call (130 : Nat) s_spec_l13DrawAny
          ((y0.fst.fst.fst, y0.fst.fst.snd.fst, y0.fst.fst.snd.snd.fst, y0.fst.fst.snd.snd.snd), ())).bind
      fun
        (y1 : ((Int × Int × List (Int × Int × Int × PUnit) × PUnit) × PUnit) × (List Int × Int × Int × PUnit) × PUnit) =>
      (call (131 : Nat) s_spec_l1Once
            ((y1.snd.fst.fst, y1.snd.fst.snd.fst, y1.snd.fst.snd.snd.fst, y1.snd.fst.snd.snd.snd), (8 : Int), ())).bind
        fun (y2 : (Bool × PUnit) × (List Int × Int × Int × PUnit) × PUnit) =>
        bif y2.fst.fst then
          (call (130 : Nat) s_spec_l13DrawAny
                ((y2.snd.fst.fst, y2.snd.fst.snd.fst, y2.snd.fst.snd.snd.fst, y2.snd.fst.snd.snd.snd), ())).bind
            fun
              (y3 :
                ((Int × Int × List (Int × Int × Int × PUnit) × PUnit) × PUnit) ×
                  (List Int × Int × Int × PUnit) × PUnit) =>
            some
              (((y1.fst.fst.fst, y1.fst.fst.snd.fst, y1.fst.fst.snd.snd.fst, y1.fst.fst.snd.snd.snd),
                  (y3.fst.fst.fst, y3.fst.fst.snd.fst, y3.fst.fst.snd.snd.fst, y3.fst.fst.snd.snd.snd), ()),
                ())
        else
          (call (88 : Nat) s_spec_l1In (y1.fst.fst.fst, (0 : Int), (10 : Int), ())).bind
            fun (y4 : (Bool × PUnit) × PUnit) =>
            bif !y4.fst.fst then
              (call (130 : Nat) s_spec_l13DrawAny
                    ((y2.snd.fst.fst, y2.snd.fst.snd.fst, y2.snd.fst.snd.snd.fst, y2.snd.fst.snd.snd.snd), ())).bind
                fun
                  (y5 :
                    ((Int × Int × List (Int × Int × Int × PUnit) × PUnit) × PUnit) ×
                      (List Int × Int × Int × PUnit) × PUnit) =>
                some
                  (((y1.fst.fst.fst, y1.fst.fst.snd.fst, y1.fst.fst.snd.snd.fst, y1.fst.fst.snd.snd.snd),
                      (y5.fst.fst.fst, y5.fst.fst.snd.fst, y5.fst.fst.snd.snd.fst, y5.fst.fst.snd.snd.snd), ()),
                    ())
            else
              (call (132 : Nat) s_spec_l13Draw
                    ((y2.snd.fst.fst, y2.snd.fst.snd.fst, y2.snd.fst.snd.snd.fst, y2.snd.fst.snd.snd.snd), y1.fst.fst.fst,
                      ())).bind
                fun
                  (y6 :
                    ((Int × Int × List (Int × Int × Int × PUnit) × PUnit) × PUnit) ×
                      (List Int × Int × Int × PUnit) × PUnit) =>
                some
                  (((y1.fst.fst.fst, y1.fst.fst.snd.fst, y1.fst.fst.snd.snd.fst, y1.fst.fst.snd.snd.snd),
                      (y6.fst.fst.fst, y6.fst.fst.snd.fst, y6.fst.fst.snd.snd.fst, y6.fst.fst.snd.snd.snd), ()),
                    ())
def F (call : Cl) (k : Nat) (a0 : (List Int)) : Option R := Fm call k  a0
theorem F_eq (call : Cl) (k : Nat) (a0 : (List Int)) : bodyK E call n_spec_DrawAndDia k s_spec_DrawAndDia (a0, ()) = F call k a0 := by
  kernel_rfl
end spec_DrawAndDia
/-! #### spec_l13DrawAny -/
namespace spec_l13DrawAny
abbrev R := (((Int × (Int × ((List (Int × (Int × (Int × Unit)))) × Unit))) × Unit) × (((List Int) × (Int × (Int × Unit))) × Unit))
def Fm (call : Cl) (k : Nat)  (a0 : ((List Int) × (Int × (Int × Unit)))) : Option R :=
    (call (144 : Nat) s_spec_l1Below ((a0.fst, a0.snd.fst, a0.snd.snd.fst, a0.snd.snd.snd), (6 : Int), ())).bind
    fun (y0 : (Int × PUnit) × (List Int × Int × Int × PUnit) × PUnit) =>
    (call (131 : Nat) s_spec_l1Once
          ((y0.snd.fst.fst, y0.snd.fst.snd.fst, y0.snd.fst.snd.snd.fst, y0.snd.fst.snd.snd.snd), (30 : Int), ())).bind
      fun (y1 : (Bool × PUnit) × (List Int × Int × Int × PUnit) × PUnit) =>
      bif y1.fst.fst then
        (call (132 : Nat) s_spec_l13Draw
              ((y1.snd.fst.fst, y1.snd.fst.snd.fst, y1.snd.fst.snd.snd.fst, y1.snd.fst.snd.snd.snd), (10 : Int), ())).bind
          fun
            (y2 :
              ((Int × Int × List (Int × Int × Int × PUnit) × PUnit) × PUnit) × (List Int × Int × Int × PUnit) × PUnit) =>
          (call (131 : Nat) s_spec_l1Once
                ((y2.snd.fst.fst, y2.snd.fst.snd.fst, y2.snd.fst.snd.snd.fst, y2.snd.fst.snd.snd.snd), (8 : Int),
                  ())).bind
            fun (y3 : (Bool × PUnit) × (List Int × Int × Int × PUnit) × PUnit) =>
            bif y3.fst.fst then
              (call (144 : Nat) s_spec_l1Below
                    ((y3.snd.fst.fst, y3.snd.fst.snd.fst, y3.snd.fst.snd.snd.fst, y3.snd.fst.snd.snd.snd), (4 : Int),
                      ())).bind
                fun (y4 : (Int × PUnit) × (List Int × Int × Int × PUnit) × PUnit) =>
                bif y4.fst.fst == (0 : Int) then
                  (call (156 : Nat) s_spec_l1Num
                        ((y4.snd.fst.fst, y4.snd.fst.snd.fst, y4.snd.fst.snd.snd.fst, y4.snd.fst.snd.snd.snd), (10 : Int),
                          ())).bind
                    fun (y5 : (Int × PUnit) × (List Int × Int × Int × PUnit) × PUnit) =>
                    some
                      (((y5.fst.fst, y2.fst.fst.snd.fst, y2.fst.fst.snd.snd.fst, y2.fst.fst.snd.snd.snd), ()),
                        (y5.snd.fst.fst, y5.snd.fst.snd.fst, y5.snd.fst.snd.snd.fst, y5.snd.fst.snd.snd.snd), ())
                else
                  bif y4.fst.fst == (1 : Int) then
                    (call (157 : Nat) s_spec_l1From
                          ((y4.snd.fst.fst, y4.snd.fst.snd.fst, y4.snd.fst.snd.snd.fst, y4.snd.fst.snd.snd.snd),
                            (-1 : Int), IntKind.i64.wrap ((↑(List.length y2.fst.fst.snd.snd.fst) : Int) + (2 : Int)),
                            ())).bind
                      fun (y6 : (Int × PUnit) × (List Int × Int × Int × PUnit) × PUnit) =>
                      some
                        (((y2.fst.fst.fst, y6.fst.fst, y2.fst.fst.snd.snd.fst, y2.fst.fst.snd.snd.snd), ()),
                          (y6.snd.fst.fst, y6.snd.fst.snd.fst, y6.snd.fst.snd.snd.fst, y6.snd.fst.snd.snd.snd), ())
                  else
                    bif y4.fst.fst == (2 : Int) then
                      bif decide ((↑(List.length y2.fst.fst.snd.snd.fst) : Int) > (0 : Int)) then
                        (call (144 : Nat) s_spec_l1Below
                              ((y4.snd.fst.fst, y4.snd.fst.snd.fst, y4.snd.fst.snd.snd.fst, y4.snd.fst.snd.snd.snd),
                                (↑(List.length y2.fst.fst.snd.snd.fst) : Int), ())).bind
                          fun (y7 : (Int × PUnit) × (List Int × Int × Int × PUnit) × PUnit) =>
                          (call (157 : Nat) s_spec_l1From
                                ((y7.snd.fst.fst, y7.snd.fst.snd.fst, y7.snd.fst.snd.snd.fst, y7.snd.fst.snd.snd.snd),
                                  (-1 : Int), (5 : Int), ())).bind
                            fun (y8 : (Int × PUnit) × (List Int × Int × Int × PUnit) × PUnit) =>
                            (call (144 : Nat) s_spec_l1Below
                                  ((y8.snd.fst.fst, y8.snd.fst.snd.fst, y8.snd.fst.snd.snd.fst, y8.snd.fst.snd.snd.snd),
                                    IntKind.i64.wrap ((↑(List.length y2.fst.fst.snd.snd.fst) : Int) + (2 : Int)),
                                    ())).bind
                              fun (y9 : (Int × PUnit) × (List Int × Int × Int × PUnit) × PUnit) =>
                              (call (144 : Nat) s_spec_l1Below
                                    ((y9.snd.fst.fst, y9.snd.fst.snd.fst, y9.snd.fst.snd.snd.fst, y9.snd.fst.snd.snd.snd),
                                      IntKind.i64.wrap ((↑(List.length y2.fst.fst.snd.snd.fst) : Int) + (2 : Int)),
                                      ())).bind
                                fun (y10 : (Int × PUnit) × (List Int × Int × Int × PUnit) × PUnit) =>
                                bif
                                    decide ((0 : Int) ≤ y7.fst.fst) &&
                                      decide (Int.toNat y7.fst.fst < List.length y2.fst.fst.snd.snd.fst) then
                                  (lget y2.fst.fst.snd.snd.fst (Int.toNat y7.fst.fst)).bind
                                    fun (y11 : Int × Int × Int × PUnit) =>
                                    some
                                      (((y2.fst.fst.fst, y2.fst.fst.snd.fst,
                                            List.set y2.fst.fst.snd.snd.fst (Int.toNat y7.fst.fst)
                                              (y8.fst.fst, y9.fst.fst, y10.fst.fst, ()),
                                            y2.fst.fst.snd.snd.snd),
                                          ()),
                                        (y10.snd.fst.fst, y10.snd.fst.snd.fst, y10.snd.fst.snd.snd.fst,
                                          y10.snd.fst.snd.snd.snd),
                                        ())
                                else none
                      else
                        some
                          (((y2.fst.fst.fst, y2.fst.fst.snd.fst, y2.fst.fst.snd.snd.fst, y2.fst.fst.snd.snd.snd), ()),
                            (y4.snd.fst.fst, y4.snd.fst.snd.fst, y4.snd.fst.snd.snd.fst, y4.snd.fst.snd.snd.snd), ())
                    else
                      bif y4.fst.fst == (3 : Int) then
                        (call (144 : Nat) s_spec_l1Below
                              ((y4.snd.fst.fst, y4.snd.fst.snd.fst, y4.snd.fst.snd.snd.fst, y4.snd.fst.snd.snd.snd),
                                (5 : Int), ())).bind
                          fun (y12 : (Int × PUnit) × (List Int × Int × Int × PUnit) × PUnit) =>
                          (call (144 : Nat) s_spec_l1Below
                                ((y12.snd.fst.fst, y12.snd.fst.snd.fst, y12.snd.fst.snd.snd.fst, y12.snd.fst.snd.snd.snd),
                                  IntKind.i64.wrap ((↑(List.length y2.fst.fst.snd.snd.fst) : Int) + (2 : Int)), ())).bind
                            fun (y13 : (Int × PUnit) × (List Int × Int × Int × PUnit) × PUnit) =>
                            (call (144 : Nat) s_spec_l1Below
                                  ((y13.snd.fst.fst, y13.snd.fst.snd.fst, y13.snd.fst.snd.snd.fst,
                                      y13.snd.fst.snd.snd.snd),
                                    IntKind.i64.wrap ((↑(List.length y2.fst.fst.snd.snd.fst) : Int) + (2 : Int)),
                                    ())).bind
                              fun (y14 : (Int × PUnit) × (List Int × Int × Int × PUnit) × PUnit) =>
                              bif
                                  decide
                                    ((List.length y2.fst.fst.snd.snd.fst +
                                          [(y12.fst.fst, y13.fst.fst, y14.fst.fst, ())].length) *
                                        ti92.bytes ≤
                                      (140737488355328 : Nat)) then
                                some
                                  (((y2.fst.fst.fst,
                                        IntKind.i64.wrap ((↑(List.length y2.fst.fst.snd.snd.fst) : Int) + (2 : Int)),
                                        y2.fst.fst.snd.snd.fst ++ [(y12.fst.fst, y13.fst.fst, y14.fst.fst, ())],
                                        y2.fst.fst.snd.snd.snd),
                                      ()),
                                    (y14.snd.fst.fst, y14.snd.fst.snd.fst, y14.snd.fst.snd.snd.fst,
                                      y14.snd.fst.snd.snd.snd),
                                    ())
                              else none
                      else
                        some
                          (((y2.fst.fst.fst, y2.fst.fst.snd.fst, y2.fst.fst.snd.snd.fst, y2.fst.fst.snd.snd.snd), ()),
                            (y4.snd.fst.fst, y4.snd.fst.snd.fst, y4.snd.fst.snd.snd.fst, y4.snd.fst.snd.snd.snd), ())
            else
              some
                (((y2.fst.fst.fst, y2.fst.fst.snd.fst, y2.fst.fst.snd.snd.fst, y2.fst.fst.snd.snd.snd), ()),
                  (y3.snd.fst.fst, y3.snd.fst.snd.fst, y3.snd.fst.snd.snd.fst, y3.snd.fst.snd.snd.snd), ())
      else
        (call (132 : Nat) s_spec_l13Draw
              ((y1.snd.fst.fst, y1.snd.fst.snd.fst, y1.snd.fst.snd.snd.fst, y1.snd.fst.snd.snd.snd), y0.fst.fst, ())).bind
          fun
            (y15 :
              ((Int × Int × List (Int × Int × Int × PUnit) × PUnit) × PUnit) × (List Int × Int × Int × PUnit) × PUnit) =>
          (call (131 : Nat) s_spec_l1Once
                ((y15.snd.fst.fst, y15.snd.fst.snd.fst, y15.snd.fst.snd.snd.fst, y15.snd.fst.snd.snd.snd), (8 : Int),
                  ())).bind
            fun (y16 : (Bool × PUnit) × (List Int × Int × Int × PUnit) × PUnit) =>
            bif y16.fst.fst then
              (call (144 : Nat) s_spec_l1Below
                    ((y16.snd.fst.fst, y16.snd.fst.snd.fst, y16.snd.fst.snd.snd.fst, y16.snd.fst.snd.snd.snd), (4 : Int),
                      ())).bind
                fun (y17 : (Int × PUnit) × (List Int × Int × Int × PUnit) × PUnit) =>
                bif y17.fst.fst == (0 : Int) then
                  (call (156 : Nat) s_spec_l1Num
                        ((y17.snd.fst.fst, y17.snd.fst.snd.fst, y17.snd.fst.snd.snd.fst, y17.snd.fst.snd.snd.snd),
                          (10 : Int), ())).bind
                    fun (y18 : (Int × PUnit) × (List Int × Int × Int × PUnit) × PUnit) =>
                    some
                      (((y18.fst.fst, y15.fst.fst.snd.fst, y15.fst.fst.snd.snd.fst, y15.fst.fst.snd.snd.snd), ()),
                        (y18.snd.fst.fst, y18.snd.fst.snd.fst, y18.snd.fst.snd.snd.fst, y18.snd.fst.snd.snd.snd), ())
                else
                  bif y17.fst.fst == (1 : Int) then
                    (call (157 : Nat) s_spec_l1From
                          ((y17.snd.fst.fst, y17.snd.fst.snd.fst, y17.snd.fst.snd.snd.fst, y17.snd.fst.snd.snd.snd),
                            (-1 : Int), IntKind.i64.wrap ((↑(List.length y15.fst.fst.snd.snd.fst) : Int) + (2 : Int)),
                            ())).bind
                      fun (y19 : (Int × PUnit) × (List Int × Int × Int × PUnit) × PUnit) =>
                      some
                        (((y15.fst.fst.fst, y19.fst.fst, y15.fst.fst.snd.snd.fst, y15.fst.fst.snd.snd.snd), ()),
                          (y19.snd.fst.fst, y19.snd.fst.snd.fst, y19.snd.fst.snd.snd.fst, y19.snd.fst.snd.snd.snd), ())
                  else
                    bif y17.fst.fst == (2 : Int) then
                      bif decide ((↑(List.length y15.fst.fst.snd.snd.fst) : Int) > (0 : Int)) then
                        (call (144 : Nat) s_spec_l1Below
                              ((y17.snd.fst.fst, y17.snd.fst.snd.fst, y17.snd.fst.snd.snd.fst, y17.snd.fst.snd.snd.snd),
                                (↑(List.length y15.fst.fst.snd.snd.fst) : Int), ())).bind
                          fun (y20 : (Int × PUnit) × (List Int × Int × Int × PUnit) × PUnit) =>
                          (call (157 : Nat) s_spec_l1From
                                ((y20.snd.fst.fst, y20.snd.fst.snd.fst, y20.snd.fst.snd.snd.fst, y20.snd.fst.snd.snd.snd),
                                  (-1 : Int), (5 : Int), ())).bind
                            fun (y21 : (Int × PUnit) × (List Int × Int × Int × PUnit) × PUnit) =>
                            (call (144 : Nat) s_spec_l1Below
                                  ((y21.snd.fst.fst, y21.snd.fst.snd.fst, y21.snd.fst.snd.snd.fst,
                                      y21.snd.fst.snd.snd.snd),
                                    IntKind.i64.wrap ((↑(List.length y15.fst.fst.snd.snd.fst) : Int) + (2 : Int)),
                                    ())).bind
                              fun (y22 : (Int × PUnit) × (List Int × Int × Int × PUnit) × PUnit) =>
                              (call (144 : Nat) s_spec_l1Below
                                    ((y22.snd.fst.fst, y22.snd.fst.snd.fst, y22.snd.fst.snd.snd.fst,
                                        y22.snd.fst.snd.snd.snd),
                                      IntKind.i64.wrap ((↑(List.length y15.fst.fst.snd.snd.fst) : Int) + (2 : Int)),
                                      ())).bind
                                fun (y23 : (Int × PUnit) × (List Int × Int × Int × PUnit) × PUnit) =>
                                bif
                                    decide ((0 : Int) ≤ y20.fst.fst) &&
                                      decide (Int.toNat y20.fst.fst < List.length y15.fst.fst.snd.snd.fst) then
                                  (lget y15.fst.fst.snd.snd.fst (Int.toNat y20.fst.fst)).bind
                                    fun (y24 : Int × Int × Int × PUnit) =>
                                    some
                                      (((y15.fst.fst.fst, y15.fst.fst.snd.fst,
                                            List.set y15.fst.fst.snd.snd.fst (Int.toNat y20.fst.fst)
                                              (y21.fst.fst, y22.fst.fst, y23.fst.fst, ()),
                                            y15.fst.fst.snd.snd.snd),
                                          ()),
                                        (y23.snd.fst.fst, y23.snd.fst.snd.fst, y23.snd.fst.snd.snd.fst,
                                          y23.snd.fst.snd.snd.snd),
                                        ())
                                else none
                      else
                        some
                          (((y15.fst.fst.fst, y15.fst.fst.snd.fst, y15.fst.fst.snd.snd.fst, y15.fst.fst.snd.snd.snd), ()),
                            (y17.snd.fst.fst, y17.snd.fst.snd.fst, y17.snd.fst.snd.snd.fst, y17.snd.fst.snd.snd.snd), ())
                    else
                      bif y17.fst.fst == (3 : Int) then
                        (call (144 : Nat) s_spec_l1Below
                              ((y17.snd.fst.fst, y17.snd.fst.snd.fst, y17.snd.fst.snd.snd.fst, y17.snd.fst.snd.snd.snd),
                                (5 : Int), ())).bind
                          fun (y25 : (Int × PUnit) × (List Int × Int × Int × PUnit) × PUnit) =>
                          (call (144 : Nat) s_spec_l1Below
                                ((y25.snd.fst.fst, y25.snd.fst.snd.fst, y25.snd.fst.snd.snd.fst, y25.snd.fst.snd.snd.snd),
                                  IntKind.i64.wrap ((↑(List.length y15.fst.fst.snd.snd.fst) : Int) + (2 : Int)), ())).bind
                            fun (y26 : (Int × PUnit) × (List Int × Int × Int × PUnit) × PUnit) =>
                            (call (144 : Nat) s_spec_l1Below
                                  ((y26.snd.fst.fst, y26.snd.fst.snd.fst, y26.snd.fst.snd.snd.fst,
                                      y26.snd.fst.snd.snd.snd),
                                    IntKind.i64.wrap ((↑(List.length y15.fst.fst.snd.snd.fst) : Int) + (2 : Int)),
                                    ())).bind
                              fun (y27 : (Int × PUnit) × (List Int × Int × Int × PUnit) × PUnit) =>
                              bif
                                  decide
                                    ((List.length y15.fst.fst.snd.snd.fst +
                                          [(y25.fst.fst, y26.fst.fst, y27.fst.fst, ())].length) *
                                        ti92.bytes ≤
                                      (140737488355328 : Nat)) then
                                some
                                  (((y15.fst.fst.fst,
                                        IntKind.i64.wrap ((↑(List.length y15.fst.fst.snd.snd.fst) : Int) + (2 : Int)),
                                        y15.fst.fst.snd.snd.fst ++ [(y25.fst.fst, y26.fst.fst, y27.fst.fst, ())],
                                        y15.fst.fst.snd.snd.snd),
                                      ()),
                                    (y27.snd.fst.fst, y27.snd.fst.snd.fst, y27.snd.fst.snd.snd.fst,
                                      y27.snd.fst.snd.snd.snd),
                                    ())
                              else none
                      else
                        some
                          (((y15.fst.fst.fst, y15.fst.fst.snd.fst, y15.fst.fst.snd.snd.fst, y15.fst.fst.snd.snd.snd), ()),
                            (y17.snd.fst.fst, y17.snd.fst.snd.fst, y17.snd.fst.snd.snd.fst, y17.snd.fst.snd.snd.snd), ())
            else
              some
                (((y15.fst.fst.fst, y15.fst.fst.snd.fst, y15.fst.fst.snd.snd.fst, y15.fst.fst.snd.snd.snd), ()),
                  (y16.snd.fst.fst, y16.snd.fst.snd.fst, y16.snd.fst.snd.snd.fst, y16.snd.fst.snd.snd.snd), ())
def F (call : Cl) (k : Nat) (a0 : ((List Int) × (Int × (Int × Unit)))) : Option R := Fm call k  a0
theorem F_eq (call : Cl) (k : Nat) (a0 : ((List Int) × (Int × (Int × Unit)))) : bodyK E call n_spec_l13DrawAny k s_spec_l13DrawAny (a0, ()) = F call k a0 := by
  kernel_rfl
end spec_l13DrawAny
/-! #### spec_l13Draw -/
namespace spec_l13Draw
abbrev R := (((Int × (Int × ((List (Int × (Int × (Int × Unit)))) × Unit))) × Unit) × (((List Int) × (Int × (Int × Unit))) × Unit))
def S0 (a1 : Int) (y0 : ((Int × Unit) × (((List Int) × (Int × (Int × Unit))) × Unit))) (v0_2 : Int) (v0_3 : (List Bool)) (v0_7 : (List Int)) (v0_8 : Int) (v0_9 : Int) : St := ⟨mkS 40 [(0, .p [0] [] 0), (1, .v (.int .i64) (a1)), (4, .p [4] [] 0), (5, .ref [5]), (6, .v (.int .i64) (y0.fst.fst)), (7, .v (.int .i64) v0_2)], [([5], .list 4 .bool v0_3), ([4, 5, 1, 1, 0], .list 92 (.pair (.int .i64) (.pair (.int .i64) (.pair (.int .i64) .unit))) ([])), ([4], .box (.pr (.v (.int .i64) ((0 : Int))) (.pr (.v (.int .i64) ((0 : Int))) (.pr (.ref [4, 5, 1, 1, 0]) (.v .unit ()))))), ([0], .box (.v (.pair (.slc (.int .u8)) (.pair (.int .i64) (.pair (.int .i64) .unit))) (v0_7, (v0_8, (v0_9, ())))))]⟩
def step0 (call : Cl) (k : Nat) (a1 : Int) (y0 : ((Int × Unit) × (((List Int) × (Int × (Int × Unit))) × Unit)))   (r0 : (Int) → ((List Bool)) → ((List Int)) → (Int) → (Int) → Option R) (v0_2 : Int) (v0_3 : (List Bool)) (v0_7 : (List Int)) (v0_8 : Int) (v0_9 : Int) : Option R :=
    (call (124 : Nat) s_spec_l13Size (a1, ())).bind fun (y1 : (Int × PUnit) × PUnit) =>
    bif decide (v0_2 < y1.fst.fst) then
      bif y0.fst.fst == (0 : Int) then
        (call (131 : Nat) s_spec_l1Once ((v0_7, v0_8, v0_9, ()), (2 : Int), ())).bind
          fun (y2 : (Bool × PUnit) × (List Int × Int × Int × PUnit) × PUnit) =>
          bif decide ((v0_3.length + [y2.fst.fst].length) * ti4.bytes ≤ (140737488355328 : Nat)) then
            r0 (IntKind.i64.wrap (v0_2 + (1 : Int))) (v0_3 ++ [y2.fst.fst]) y2.snd.fst.fst y2.snd.fst.snd.fst
              y2.snd.fst.snd.snd.fst
          else none
      else
        bif y0.fst.fst == (1 : Int) then
          (call (131 : Nat) s_spec_l1Once ((v0_7, v0_8, v0_9, ()), (6 : Int), ())).bind
            fun (y3 : (Bool × PUnit) × (List Int × Int × Int × PUnit) × PUnit) =>
            bif decide ((v0_3.length + [y3.fst.fst].length) * ti4.bytes ≤ (140737488355328 : Nat)) then
              r0 (IntKind.i64.wrap (v0_2 + (1 : Int))) (v0_3 ++ [y3.fst.fst]) y3.snd.fst.fst y3.snd.fst.snd.fst
                y3.snd.fst.snd.snd.fst
            else none
        else
          bif decide (IntKind.i64.wrap ((1 : Int) + y0.fst.fst) = (0 : Int)) then none
          else
            bif
                decide
                  ((v0_3.length +
                        [(IntKind.i64.wrap (v0_2.tdiv (IntKind.i64.wrap ((1 : Int) + y0.fst.fst)))).tmod (2 : Int) ==
                              (0 : Int)].length) *
                      ti4.bytes ≤
                    (140737488355328 : Nat)) then
              r0 (IntKind.i64.wrap (v0_2 + (1 : Int)))
                (v0_3 ++
                  [(IntKind.i64.wrap (v0_2.tdiv (IntKind.i64.wrap ((1 : Int) + y0.fst.fst)))).tmod (2 : Int) ==
                      (0 : Int)])
                v0_7 v0_8 v0_9
            else none
    else
      (call (105 : Nat) s_spec_l13Make (a1, v0_3, ())).bind
        fun (y4 : ((Int × Int × List (Int × Int × Int × PUnit) × PUnit) × PUnit) × PUnit) =>
        some
          (((y4.fst.fst.fst, y4.fst.fst.snd.fst, y4.fst.fst.snd.snd.fst, y4.fst.fst.snd.snd.snd), ()),
            (v0_7, v0_8, v0_9, ()), ())
def L0 (call : Cl) (k : Nat) (a1 : Int) (y0 : ((Int × Unit) × (((List Int) × (Int × (Int × Unit))) × Unit)))  : Nat → (Int) → ((List Bool)) → ((List Int)) → (Int) → (Int) → Option R
    | 0, _, _, _, _, _ => none
    | n + 1, v0_2, v0_3, v0_7, v0_8, v0_9 => step0 call k a1 y0   (L0 call k a1 y0  n) v0_2 v0_3 v0_7 v0_8 v0_9
def Fm (call : Cl) (k : Nat) (l0 : (Int) → (((Int × Unit) × (((List Int) × (Int × (Int × Unit))) × Unit))) → (Int) → ((List Bool)) → ((List Int)) → (Int) → (Int) → Option R) (a0 : ((List Int) × (Int × (Int × Unit)))) (a1 : Int) : Option R :=
    (call (144 : Nat) s_spec_l1Below ((a0.fst, a0.snd.fst, a0.snd.snd.fst, a0.snd.snd.snd), (5 : Int), ())).bind
    fun (y0 : (Int × PUnit) × (List Int × Int × Int × PUnit) × PUnit) =>
    l0 a1 y0 (0 : Int) [] y0.snd.fst.fst y0.snd.fst.snd.fst y0.snd.fst.snd.snd.fst
def F (call : Cl) (k : Nat) (a0 : ((List Int) × (Int × (Int × Unit)))) (a1 : Int) : Option R := Fm call k (fun a1_ y0_ v0_2_ v0_3_ v0_7_ v0_8_ v0_9_ => L0 call k a1_ y0_ k v0_2_ v0_3_ v0_7_ v0_8_ v0_9_) a0 a1
theorem L0_eq (call : Cl) (k : Nat) (J : Nat → St → Option R) (a0 : ((List Int) × (Int × (Int × Unit)))) (a1 : Int) (y0 : ((Int × Unit) × (((List Int) × (Int × (Int × Unit))) × Unit))) : ∀ (n : Nat) (x : ((Int) × ((List Bool)) × ((List Int)) × (Int) × (Int))), siteI E call n_spec_l13Draw k s_spec_l13Draw (a0, a1, ()) J 0 n (S0 a1 y0 x.1 x.2.1 x.2.2.1 x.2.2.2.1 x.2.2.2.2) = L0 call k a1 y0  n x.1 x.2.1 x.2.2.1 x.2.2.2.1 x.2.2.2.2 := by
  refine loop_eq (E := E) (call := call) (f := n_spec_l13Draw) (k := k) (s := s_spec_l13Draw) (l := (a0, a1, ())) (J := J) (i := 0) (X := ((Int) × ((List Bool)) × ((List Int)) × (Int) × (Int))) (fun x => S0 a1 y0 x.1 x.2.1 x.2.2.1 x.2.2.2.1 x.2.2.2.2) (fun n x => L0 call k a1 y0  n x.1 x.2.1 x.2.2.1 x.2.2.2.1 x.2.2.2.2) (fun r x => step0 call k a1 y0   (fun v0_2 v0_3 v0_7 v0_8 v0_9 => r (v0_2, v0_3, v0_7, v0_8, v0_9)) x.1 x.2.1 x.2.2.1 x.2.2.2.1 x.2.2.2.2) ?_ ?_ ?_
  · intro x; rfl
  · intro n x; rfl
  intro J0 x
  kernel_rfl
theorem F_eq (call : Cl) (k : Nat) (a0 : ((List Int) × (Int × (Int × Unit)))) (a1 : Int) : bodyK E call n_spec_l13Draw k s_spec_l13Draw (a0, a1, ()) = F call k a0 a1 := by
  refine Eq.trans (b := Fm call k (fun (a1 : Int) (y0 : ((Int × Unit) × (((List Int) × (Int × (Int × Unit))) × Unit))) (v0_2_ : Int) (v0_3_ : (List Bool)) (v0_7_ : (List Int)) (v0_8_ : Int) (v0_9_ : Int) => siteI E call n_spec_l13Draw k s_spec_l13Draw (a0, a1, ()) (fun _ _ => none) 0 k (S0 a1 y0 v0_2_ v0_3_ v0_7_ v0_8_ v0_9_)) a0 a1) (by kernel_rfl) ?_
  rw [show (fun (a1 : Int) (y0 : ((Int × Unit) × (((List Int) × (Int × (Int × Unit))) × Unit))) (v0_2_ : Int) (v0_3_ : (List Bool)) (v0_7_ : (List Int)) (v0_8_ : Int) (v0_9_ : Int) => siteI E call n_spec_l13Draw k s_spec_l13Draw (a0, a1, ()) (fun _ _ => none) 0 k (S0 a1 y0 v0_2_ v0_3_ v0_7_ v0_8_ v0_9_)) = (fun (a1 : Int) (y0 : ((Int × Unit) × (((List Int) × (Int × (Int × Unit))) × Unit))) (v0_2_ : Int) (v0_3_ : (List Bool)) (v0_7_ : (List Int)) (v0_8_ : Int) (v0_9_ : Int) => L0 call k a1 y0 k v0_2_ v0_3_ v0_7_ v0_8_ v0_9_) from funext fun a1 => funext fun y0 => funext fun v0_2_ => funext fun v0_3_ => funext fun v0_7_ => funext fun v0_8_ => funext fun v0_9_ => L0_eq call k (fun _ _ => none) a0 a1 y0 k (v0_2_, v0_3_, v0_7_, v0_8_, v0_9_)]
  rfl
end spec_l13Draw
/-! #### spec_l1New -/
namespace spec_l1New
abbrev R := ((((List Int) × (Int × (Int × Unit))) × Unit) × Unit)
def S0 (a0 : (List Int)) (v0_1 : Int) (v0_2 : Int) : St := ⟨mkS 28 [(0, .v (.slc (.int .u8)) (a0)), (3, .v (.int .i64) v0_1), (4, .v (.int .i64) v0_2)], []⟩
def step0 (call : Cl) (k : Nat) (a0 : (List Int))   (r0 : (Int) → (Int) → Option R) (v0_1 : Int) (v0_2 : Int) : Option R :=
    bif decide (v0_2 < (↑a0.length : Int)) then
    bif decide ((0 : Int) ≤ v0_2) then
      (lget a0 v0_2.toNat).bind fun (y0 : Int) =>
        r0
          (bitsI BinOp.and IntKind.i64
            (IntKind.i64.wrap
              (IntKind.i64.wrap (IntKind.i64.wrap (v0_1 * (181 : Int)) + IntKind.i64.wrap y0) + (11 : Int)))
            (1073741823 : Int))
          (IntKind.i64.wrap (v0_2 + (1 : Int)))
    else none
  else some (((a0, (0 : Int), v0_1, ()), ()), ())
def L0 (call : Cl) (k : Nat) (a0 : (List Int))  : Nat → (Int) → (Int) → Option R
    | 0, _, _ => none
    | n + 1, v0_1, v0_2 => step0 call k a0   (L0 call k a0  n) v0_1 v0_2
def Fm (call : Cl) (k : Nat) (l0 : ((List Int)) → (Int) → (Int) → Option R) (a0 : (List Int)) : Option R :=
    l0 a0 (IntKind.i64.wrap ((141421 : Int) + (↑a0.length : Int))) (0 : Int)
def F (call : Cl) (k : Nat) (a0 : (List Int)) : Option R := Fm call k (fun a0_ v0_1_ v0_2_ => L0 call k a0_ k v0_1_ v0_2_) a0
theorem L0_eq (call : Cl) (k : Nat) (J : Nat → St → Option R) (a0 : (List Int)) : ∀ (n : Nat) (x : ((Int) × (Int))), siteI E call n_spec_l1New k s_spec_l1New (a0, ()) J 0 n (S0 a0 x.1 x.2) = L0 call k a0  n x.1 x.2 := by
  refine loop_eq (E := E) (call := call) (f := n_spec_l1New) (k := k) (s := s_spec_l1New) (l := (a0, ())) (J := J) (i := 0) (X := ((Int) × (Int))) (fun x => S0 a0 x.1 x.2) (fun n x => L0 call k a0  n x.1 x.2) (fun r x => step0 call k a0   (fun v0_1 v0_2 => r (v0_1, v0_2)) x.1 x.2) ?_ ?_ ?_
  · intro x; rfl
  · intro n x; rfl
  intro J0 x
  kernel_rfl
theorem F_eq (call : Cl) (k : Nat) (a0 : (List Int)) : bodyK E call n_spec_l1New k s_spec_l1New (a0, ()) = F call k a0 := by
  refine Eq.trans (b := Fm call k (fun (a0 : (List Int)) (v0_1_ : Int) (v0_2_ : Int) => siteI E call n_spec_l1New k s_spec_l1New (a0, ()) (fun _ _ => none) 0 k (S0 a0 v0_1_ v0_2_)) a0) (by kernel_rfl) ?_
  rw [show (fun (a0 : (List Int)) (v0_1_ : Int) (v0_2_ : Int) => siteI E call n_spec_l1New k s_spec_l1New (a0, ()) (fun _ _ => none) 0 k (S0 a0 v0_1_ v0_2_)) = (fun (a0 : (List Int)) (v0_1_ : Int) (v0_2_ : Int) => L0 call k a0 k v0_1_ v0_2_) from funext fun a0 => funext fun v0_1_ => funext fun v0_2_ => L0_eq call k (fun _ _ => none) a0 k (v0_1_, v0_2_)]
  rfl
end spec_l1New
/-! #### spec_l1Byte -/
namespace spec_l1Byte
abbrev R := ((Int × Unit) × (((List Int) × (Int × (Int × Unit))) × Unit))
def Fm (call : Cl) (k : Nat)  (a0 : ((List Int) × (Int × (Int × Unit)))) : Option R :=
    bif decide (a0.snd.fst < (↑(List.length a0.fst) : Int)) then
    bif decide ((0 : Int) ≤ a0.snd.fst) then
      (lget a0.fst (Int.toNat a0.snd.fst)).bind fun (y0 : Int) =>
        some
          ((bitsI BinOp.and IntKind.i64
                (IntKind.i64.wrap
                  (bitsI BinOp.and IntKind.i64
                      (bitsI BinOp.xor IntKind.i64
                        (shrI IntKind.i64
                          (IntKind.i64.wrap
                            (IntKind.i64.wrap (a0.snd.snd.fst * (6364136223846793005 : Int)) +
                              (1442695040888963407 : Int)))
                          (33 : Int))
                        (shrI IntKind.i64
                          (IntKind.i64.wrap
                            (IntKind.i64.wrap (a0.snd.snd.fst * (6364136223846793005 : Int)) +
                              (1442695040888963407 : Int)))
                          (45 : Int)))
                      (255 : Int) +
                    IntKind.i64.wrap y0))
                (255 : Int),
              ()),
            (a0.fst, IntKind.i64.wrap (a0.snd.fst + (1 : Int)),
              IntKind.i64.wrap
                (IntKind.i64.wrap (a0.snd.snd.fst * (6364136223846793005 : Int)) + (1442695040888963407 : Int)),
              a0.snd.snd.snd),
            ())
    else none
  else
    some
      ((bitsI BinOp.and IntKind.i64
            (bitsI BinOp.xor IntKind.i64
              (shrI IntKind.i64
                (IntKind.i64.wrap
                  (IntKind.i64.wrap (a0.snd.snd.fst * (6364136223846793005 : Int)) + (1442695040888963407 : Int)))
                (33 : Int))
              (shrI IntKind.i64
                (IntKind.i64.wrap
                  (IntKind.i64.wrap (a0.snd.snd.fst * (6364136223846793005 : Int)) + (1442695040888963407 : Int)))
                (45 : Int)))
            (255 : Int),
          ()),
        (a0.fst, a0.snd.fst,
          IntKind.i64.wrap
            (IntKind.i64.wrap (a0.snd.snd.fst * (6364136223846793005 : Int)) + (1442695040888963407 : Int)),
          a0.snd.snd.snd),
        ())
def F (call : Cl) (k : Nat) (a0 : ((List Int) × (Int × (Int × Unit)))) : Option R := Fm call k  a0
theorem F_eq (call : Cl) (k : Nat) (a0 : ((List Int) × (Int × (Int × Unit)))) : bodyK E call n_spec_l1Byte k s_spec_l1Byte (a0, ()) = F call k a0 := by
  kernel_rfl
end spec_l1Byte
/-! #### spec_l1Below -/
namespace spec_l1Below
abbrev R := ((Int × Unit) × (((List Int) × (Int × (Int × Unit))) × Unit))
def Fm (call : Cl) (k : Nat)  (a0 : ((List Int) × (Int × (Int × Unit)))) (a1 : Int) : Option R :=
    bif decide (a1 ≤ (0 : Int)) then some (((0 : Int), ()), (a0.fst, a0.snd.fst, a0.snd.snd.fst, a0.snd.snd.snd), ())
  else
    bif decide (a1 ≤ (256 : Int)) then
      (call (163 : Nat) s_spec_l1Byte ((a0.fst, a0.snd.fst, a0.snd.snd.fst, a0.snd.snd.snd), ())).bind
        fun (y0 : (Int × PUnit) × (List Int × Int × Int × PUnit) × PUnit) =>
        bif decide (a1 = (0 : Int)) then none
        else
          some
            ((Int.tmod y0.fst.fst a1, ()),
              (y0.snd.fst.fst, y0.snd.fst.snd.fst, y0.snd.fst.snd.snd.fst, y0.snd.fst.snd.snd.snd), ())
    else
      (call (163 : Nat) s_spec_l1Byte ((a0.fst, a0.snd.fst, a0.snd.snd.fst, a0.snd.snd.snd), ())).bind
        fun (y1 : (Int × PUnit) × (List Int × Int × Int × PUnit) × PUnit) =>
        (call (163 : Nat) s_spec_l1Byte
              ((y1.snd.fst.fst, y1.snd.fst.snd.fst, y1.snd.fst.snd.snd.fst, y1.snd.fst.snd.snd.snd), ())).bind
          fun (y2 : (Int × PUnit) × (List Int × Int × Int × PUnit) × PUnit) =>
          (call (163 : Nat) s_spec_l1Byte
                ((y2.snd.fst.fst, y2.snd.fst.snd.fst, y2.snd.fst.snd.snd.fst, y2.snd.fst.snd.snd.snd), ())).bind
            fun (y3 : (Int × PUnit) × (List Int × Int × Int × PUnit) × PUnit) =>
            (call (163 : Nat) s_spec_l1Byte
                  ((y3.snd.fst.fst, y3.snd.fst.snd.fst, y3.snd.fst.snd.snd.fst, y3.snd.fst.snd.snd.snd), ())).bind
              fun (y4 : (Int × PUnit) × (List Int × Int × Int × PUnit) × PUnit) =>
              bif decide (a1 = (0 : Int)) then none
              else
                some
                  (((IntKind.i64.wrap
                            (IntKind.i64.wrap
                                (IntKind.i64.wrap
                                    (IntKind.i64.wrap (y1.fst.fst * (16777216 : Int)) +
                                      IntKind.i64.wrap (y2.fst.fst * (65536 : Int))) +
                                  IntKind.i64.wrap (y3.fst.fst * (256 : Int))) +
                              y4.fst.fst)).tmod
                        a1,
                      ()),
                    (y4.snd.fst.fst, y4.snd.fst.snd.fst, y4.snd.fst.snd.snd.fst, y4.snd.fst.snd.snd.snd), ())
def F (call : Cl) (k : Nat) (a0 : ((List Int) × (Int × (Int × Unit)))) (a1 : Int) : Option R := Fm call k  a0 a1
theorem F_eq (call : Cl) (k : Nat) (a0 : ((List Int) × (Int × (Int × Unit)))) (a1 : Int) : bodyK E call n_spec_l1Below k s_spec_l1Below (a0, a1, ()) = F call k a0 a1 := by
  kernel_rfl
end spec_l1Below
/-! #### spec_l1Once -/
namespace spec_l1Once
abbrev R := ((Bool × Unit) × (((List Int) × (Int × (Int × Unit))) × Unit))
def Fm (call : Cl) (k : Nat)  (a0 : ((List Int) × (Int × (Int × Unit)))) (a1 : Int) : Option R :=
    (call (144 : Nat) s_spec_l1Below ((a0.fst, a0.snd.fst, a0.snd.snd.fst, a0.snd.snd.snd), a1, ())).bind
    fun (y0 : (Int × PUnit) × (List Int × Int × Int × PUnit) × PUnit) =>
    some
      ((y0.fst.fst == (0 : Int), ()),
        (y0.snd.fst.fst, y0.snd.fst.snd.fst, y0.snd.fst.snd.snd.fst, y0.snd.fst.snd.snd.snd), ())
def F (call : Cl) (k : Nat) (a0 : ((List Int) × (Int × (Int × Unit)))) (a1 : Int) : Option R := Fm call k  a0 a1
theorem F_eq (call : Cl) (k : Nat) (a0 : ((List Int) × (Int × (Int × Unit)))) (a1 : Int) : bodyK E call n_spec_l1Once k s_spec_l1Once (a0, a1, ()) = F call k a0 a1 := by
  kernel_rfl
end spec_l1Once
/-! #### spec_l1From -/
namespace spec_l1From
abbrev R := ((Int × Unit) × (((List Int) × (Int × (Int × Unit))) × Unit))
def Fm (call : Cl) (k : Nat)  (a0 : ((List Int) × (Int × (Int × Unit)))) (a1 : Int) (a2 : Int) : Option R :=
    (call (144 : Nat) s_spec_l1Below
        ((a0.fst, a0.snd.fst, a0.snd.snd.fst, a0.snd.snd.snd), IntKind.i64.wrap (IntKind.i64.wrap (a2 - a1) + (1 : Int)),
          ())).bind
    fun (y0 : (Int × PUnit) × (List Int × Int × Int × PUnit) × PUnit) =>
    some
      ((IntKind.i64.wrap (a1 + y0.fst.fst), ()),
        (y0.snd.fst.fst, y0.snd.fst.snd.fst, y0.snd.fst.snd.snd.fst, y0.snd.fst.snd.snd.snd), ())
def F (call : Cl) (k : Nat) (a0 : ((List Int) × (Int × (Int × Unit)))) (a1 : Int) (a2 : Int) : Option R := Fm call k  a0 a1 a2
theorem F_eq (call : Cl) (k : Nat) (a0 : ((List Int) × (Int × (Int × Unit)))) (a1 : Int) (a2 : Int) : bodyK E call n_spec_l1From k s_spec_l1From (a0, a1, a2, ()) = F call k a0 a1 a2 := by
  kernel_rfl
end spec_l1From
/-! #### spec_l1Num -/
namespace spec_l1Num
abbrev R := ((Int × Unit) × (((List Int) × (Int × (Int × Unit))) × Unit))
def Fm (call : Cl) (k : Nat)  (a0 : ((List Int) × (Int × (Int × Unit)))) (a1 : Int) : Option R :=
    (call (131 : Nat) s_spec_l1Once ((a0.fst, a0.snd.fst, a0.snd.snd.fst, a0.snd.snd.snd), (10 : Int), ())).bind
    fun (y0 : (Bool × PUnit) × (List Int × Int × Int × PUnit) × PUnit) =>
    bif y0.fst.fst then
      (call (161 : Nat) s_spec_l1Odd
            ((y0.snd.fst.fst, y0.snd.fst.snd.fst, y0.snd.fst.snd.snd.fst, y0.snd.fst.snd.snd.snd), ())).bind
        fun (y1 : (Int × PUnit) × (List Int × Int × Int × PUnit) × PUnit) =>
        (call (144 : Nat) s_spec_l1Below
              ((y1.snd.fst.fst, y1.snd.fst.snd.fst, y1.snd.fst.snd.snd.fst, y1.snd.fst.snd.snd.snd), (4 : Int), ())).bind
          fun (y2 : (Int × PUnit) × (List Int × Int × Int × PUnit) × PUnit) =>
          bif
              decide ((0 : Int) ≤ y2.fst.fst) &&
                decide
                  (Int.toNat y2.fst.fst < [(-1 : Int), a1, IntKind.i64.wrap (a1 + (1 : Int)), y1.fst.fst].length) then
            (lget [(-1 : Int), a1, IntKind.i64.wrap (a1 + (1 : Int)), y1.fst.fst] (Int.toNat y2.fst.fst)).bind
              fun (y3 : Int) =>
              some ((y3, ()), (y2.snd.fst.fst, y2.snd.fst.snd.fst, y2.snd.fst.snd.snd.fst, y2.snd.fst.snd.snd.snd), ())
          else none
    else
      (call (131 : Nat) s_spec_l1Once
            ((y0.snd.fst.fst, y0.snd.fst.snd.fst, y0.snd.fst.snd.snd.fst, y0.snd.fst.snd.snd.snd), (2 : Int), ())).bind
        fun (y4 : (Bool × PUnit) × (List Int × Int × Int × PUnit) × PUnit) =>
        bif y4.fst.fst then
          (call (164 : Nat) s_spec_l1Min (a1, (4 : Int), ())).bind fun (y5 : (Int × PUnit) × PUnit) =>
            (call (144 : Nat) s_spec_l1Below
                  ((y4.snd.fst.fst, y4.snd.fst.snd.fst, y4.snd.fst.snd.snd.fst, y4.snd.fst.snd.snd.snd),
                    IntKind.i64.wrap (y5.fst.fst + (1 : Int)), ())).bind
              fun (y6 : (Int × PUnit) × (List Int × Int × Int × PUnit) × PUnit) =>
              some
                ((y6.fst.fst, ()), (y6.snd.fst.fst, y6.snd.fst.snd.fst, y6.snd.fst.snd.snd.fst, y6.snd.fst.snd.snd.snd),
                  ())
        else
          (call (144 : Nat) s_spec_l1Below
                ((y4.snd.fst.fst, y4.snd.fst.snd.fst, y4.snd.fst.snd.snd.fst, y4.snd.fst.snd.snd.snd),
                  IntKind.i64.wrap (a1 + (1 : Int)), ())).bind
            fun (y7 : (Int × PUnit) × (List Int × Int × Int × PUnit) × PUnit) =>
            some
              ((y7.fst.fst, ()), (y7.snd.fst.fst, y7.snd.fst.snd.fst, y7.snd.fst.snd.snd.fst, y7.snd.fst.snd.snd.snd), ())
def F (call : Cl) (k : Nat) (a0 : ((List Int) × (Int × (Int × Unit)))) (a1 : Int) : Option R := Fm call k  a0 a1
theorem F_eq (call : Cl) (k : Nat) (a0 : ((List Int) × (Int × (Int × Unit)))) (a1 : Int) : bodyK E call n_spec_l1Num k s_spec_l1Num (a0, a1, ()) = F call k a0 a1 := by
  kernel_rfl
end spec_l1Num
/-! #### spec_l1Odd -/
namespace spec_l1Odd
abbrev R := ((Int × Unit) × (((List Int) × (Int × (Int × Unit))) × Unit))
def Fm (call : Cl) (k : Nat)  (a0 : ((List Int) × (Int × (Int × Unit)))) : Option R :=
    (call (144 : Nat) s_spec_l1Below ((a0.fst, a0.snd.fst, a0.snd.snd.fst, a0.snd.snd.snd), (10 : Int), ())).bind
    fun (y0 : (Int × PUnit) × (List Int × Int × Int × PUnit) × PUnit) =>
    bif
        decide ((0 : Int) ≤ y0.fst.fst) &&
          decide
            (Int.toNat y0.fst.fst <
              [(-1 : Int), (0 : Int), (1 : Int), (2147483648 : Int), (-2147483648 : Int), (1099511627776 : Int),
                  (4611686018427387904 : Int), (-4611686018427387904 : Int), (9223372036854775807 : Int),
                  (-9223372036854775808 : Int)].length) then
      (lget
            [(-1 : Int), (0 : Int), (1 : Int), (2147483648 : Int), (-2147483648 : Int), (1099511627776 : Int),
              (4611686018427387904 : Int), (-4611686018427387904 : Int), (9223372036854775807 : Int),
              (-9223372036854775808 : Int)]
            (Int.toNat y0.fst.fst)).bind
        fun (y1 : Int) =>
        some ((y1, ()), (y0.snd.fst.fst, y0.snd.fst.snd.fst, y0.snd.fst.snd.snd.fst, y0.snd.fst.snd.snd.snd), ())
    else none
def F (call : Cl) (k : Nat) (a0 : ((List Int) × (Int × (Int × Unit)))) : Option R := Fm call k  a0
theorem F_eq (call : Cl) (k : Nat) (a0 : ((List Int) × (Int × (Int × Unit)))) : bodyK E call n_spec_l1Odd k s_spec_l1Odd (a0, ()) = F call k a0 := by
  kernel_rfl
end spec_l1Odd
/-! #### spec_l1Min -/
namespace spec_l1Min
abbrev R := ((Int × Unit) × Unit)
def Fm (call : Cl) (k : Nat)  (a0 : Int) (a1 : Int) : Option R :=
    bif decide (a0 < a1) then some ((a0, ()), ()) else some ((a1, ()), ())
def F (call : Cl) (k : Nat) (a0 : Int) (a1 : Int) : Option R := Fm call k  a0 a1
theorem F_eq (call : Cl) (k : Nat) (a0 : Int) (a1 : Int) : bodyK E call n_spec_l1Min k s_spec_l1Min (a0, a1, ()) = F call k a0 a1 := by
  kernel_rfl
end spec_l1Min
end Go.Proofs.Ytcmgjdmhemfecaa.Pf
