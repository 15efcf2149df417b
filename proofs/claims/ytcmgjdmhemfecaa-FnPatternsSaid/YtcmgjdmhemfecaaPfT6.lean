/- Printed texts: what the reading of these functions is. No condition. -/
import Derived.Test.YtcmgjdmhemfecaaPvEnv
import Derived.KernelRfl
set_option linter.unusedVariables false
namespace Go.Proofs.Ytcmgjdmhemfecaa.Pf
open Go Go.Pv
abbrev Y6_0 := (((List Int) × ((List Int) × Unit)) × (Int × ((List Int) × Unit)))
abbrev Y6_1 := ((((List Int) × ((List Int) × Unit)) × Unit) × Unit)
abbrev Y6_2 := (((List (List Bool)) × Unit) × Unit)
abbrev Y6_3 := (Int × ((List (List Int)) × Unit))
abbrev Y6_4 := (((List Bool) × Unit) × Unit)
abbrev Y6_5 := (((List Int) × Unit) × Unit)
abbrev Y6_6 := ((Int) × ((List Bool)))
abbrev Y6_7 := ((Int) × ((List Int)))
abbrev Y6_8 := (List (List Bool))
abbrev Y6_9 := ((Bool) × (Int))
/-! #### impl_search_bitOf -/
namespace impl_search_bitOf
abbrev R := ((Bool × Unit) × Unit)
def Fm (call : Cl) (k : Nat)  (a0 : ((List Int) × ((List Int) × Unit))) (a1 : Int) (a2 : Int) : Option R :=
    bif decide (IntKind.i64.wrap (IntKind.i64.wrap ((↑(List.length a0.fst) : Int) - (1 : Int)) - a2) < (0 : Int)) then none
  else
    some
      ((bitsI BinOp.and IntKind.i64
              (shrI IntKind.i64 a1 (IntKind.i64.wrap (IntKind.i64.wrap ((↑(List.length a0.fst) : Int) - (1 : Int)) - a2)))
              (1 : Int) ==
            (1 : Int),
          ()),
        ())
def F (call : Cl) (k : Nat) (a0 : ((List Int) × ((List Int) × Unit))) (a1 : Int) (a2 : Int) : Option R := Fm call k  a0 a1 a2
theorem F_eq (call : Cl) (k : Nat) (a0 : ((List Int) × ((List Int) × Unit))) (a1 : Int) (a2 : Int) : bodyK E call n_impl_search_bitOf k s_impl_search_bitOf (a0, a1, a2, ()) = F call k a0 a1 a2 := by
  kernel_rfl
end impl_search_bitOf
/-! #### impl_searchOf_1 -/
namespace impl_searchOf_1
abbrev R := ((Bool × Unit) × Unit)
def Fm (call : Cl) (k : Nat)  (a0 : Int) (a1 : ((List Int) × ((List Int) × Unit))) (a2 : Int) (a3 : (List Int)) : Option R :=
    bif decide ((0 : Int) ≤ a0) then
    (lget a3 a0.toNat).bind fun (y0 : Int) =>
      (call (128 : Nat) s_impl_search_bitOf (a1, a2, y0, ())).bind fun (y1 : (Bool × PUnit) × PUnit) =>
        some ((y1.fst.fst, ()), ())
  else none
def F (call : Cl) (k : Nat) (a0 : Int) (a1 : ((List Int) × ((List Int) × Unit))) (a2 : Int) (a3 : (List Int)) : Option R := Fm call k  a0 a1 a2 a3
theorem F_eq (call : Cl) (k : Nat) (a0 : Int) (a1 : ((List Int) × ((List Int) × Unit))) (a2 : Int) (a3 : (List Int)) : bodyK E call n_impl_searchOf_1 k s_impl_searchOf_1 (a0, a1, a2, a3, ()) = F call k a0 a1 a2 a3 := by
  kernel_rfl
end impl_searchOf_1
/-! #### impl_holds__impl_searchOf_1 -/
namespace impl_holds__impl_searchOf_1
abbrev R := ((Bool × Unit) × Unit)
def S1 (a0 : Y6_3) (a1 : Y6_0) (v0_5 : Int) (y0 : (List Int)) (v1_3 : Bool) (v1_9 : Int) : St := ⟨mkS 39 [(1, .v (.clo 155 (.pair (.sptr (.pair (.slc (.int .i64)) (.pair (.slc (.int .i64)) .unit))) (.pair (.sptr (.int .i64)) (.pair (.sptr (.arr 301 (.int .i64))) .unit)))) ((a1.fst), ((a1.snd.fst), ((a1.snd.snd.fst), ())))), (7, .v .bool v1_3), (13, .v (.slc (.slc (.int .i64))) (a0.snd.fst)), (14, .v (.int .i64) ((↑(List.length a0.snd.fst) : Int))), (15, .v (.int .i64) (v0_5)), (19, .v (.slc (.int .i64)) (y0)), (20, .v (.int .i64) ((↑y0.length : Int))), (21, .v (.int .i64) v1_9)], []⟩
def S0 (a0 : Y6_3) (a1 : Y6_0) (v0_5 : Int) : St := ⟨mkS 39 [(1, .v (.clo 155 (.pair (.sptr (.pair (.slc (.int .i64)) (.pair (.slc (.int .i64)) .unit))) (.pair (.sptr (.int .i64)) (.pair (.sptr (.arr 301 (.int .i64))) .unit)))) ((a1.fst), ((a1.snd.fst), ((a1.snd.snd.fst), ())))), (13, .v (.slc (.slc (.int .i64))) (a0.snd.fst)), (14, .v (.int .i64) ((↑(List.length a0.snd.fst) : Int))), (15, .v (.int .i64) v0_5)], []⟩
def step1 (call : Cl) (k : Nat) (a1 : (((List Int) × ((List Int) × Unit)) × (Int × ((List Int) × Unit)))) (v0_5 : Int) (y0 : (List Int)) (r0 : (Int) → Option R)  (r1 : (Bool) → (Int) → Option R) (v1_3 : Bool) (v1_9 : Int) : Option R :=
    bif decide (v1_9 < (↑y0.length : Int)) then
    bif decide ((0 : Int) ≤ v1_9) then
      (lget y0 v1_9.toNat).bind fun (y1 : Int) =>
        bif v1_3 then r1 true (IntKind.i64.wrap (v1_9 + (1 : Int)))
        else
          (call (150 : Nat) s_impl_variableOf (y1, ())).bind fun (y2 : (Int × PUnit) × PUnit) =>
            (call (155 : Nat) s_impl_searchOf_1 (y2.fst.fst, a1.fst, a1.snd.fst, a1.snd.snd.fst, ())).bind
              fun (y3 : (Bool × PUnit) × PUnit) =>
              r1 (y3.fst.fst == decide (y1 > (0 : Int))) (IntKind.i64.wrap (v1_9 + (1 : Int)))
    else none
  else bif !v1_3 then some ((false, ()), ()) else r0 (IntKind.i64.wrap (v0_5 + (1 : Int)))
def L1 (call : Cl) (k : Nat) (a1 : (((List Int) × ((List Int) × Unit)) × (Int × ((List Int) × Unit)))) (v0_5 : Int) (y0 : (List Int)) (r0 : (Int) → Option R) : Nat → (Bool) → (Int) → Option R
    | 0, _, _ => none
    | n + 1, v1_3, v1_9 => step1 call k a1 v0_5 y0 r0  (L1 call k a1 v0_5 y0 r0 n) v1_3 v1_9
def step0 (call : Cl) (k : Nat) (a0 : (Int × ((List (List Int)) × Unit))) (a1 : (((List Int) × ((List Int) × Unit)) × (Int × ((List Int) × Unit))))  (l1 : ((((List Int) × ((List Int) × Unit)) × (Int × ((List Int) × Unit)))) → (Int) → ((List Int)) → (Bool) → (Int) → Option R) (r0 : (Int) → Option R) (v0_5 : Int) : Option R :=
    bif decide (v0_5 < (↑(List.length a0.snd.fst) : Int)) then
    bif decide ((0 : Int) ≤ v0_5) then (lget a0.snd.fst v0_5.toNat).bind fun (y0 : List Int) => l1 a1 v0_5 y0 false (0 : Int)
    else none
  else some ((true, ()), ())
def L0 (call : Cl) (k : Nat) (a0 : (Int × ((List (List Int)) × Unit))) (a1 : (((List Int) × ((List Int) × Unit)) × (Int × ((List Int) × Unit))))  : Nat → (Int) → Option R
    | 0, _ => none
    | n + 1, v0_5 => step0 call k a0 a1  (fun a1_ v0_5_ y0_ v1_3_ v1_9_ => L1 call k a1_ v0_5_ y0_ (L0 call k a0 a1  n) k v1_3_ v1_9_) (L0 call k a0 a1  n) v0_5
def Fm (call : Cl) (k : Nat) (l0 : ((Int × ((List (List Int)) × Unit))) → ((((List Int) × ((List Int) × Unit)) × (Int × ((List Int) × Unit)))) → (Int) → Option R) (a0 : (Int × ((List (List Int)) × Unit))) (a1 : (((List Int) × ((List Int) × Unit)) × (Int × ((List Int) × Unit)))) : Option R :=
    l0 a0 a1 (0 : Int)
def F (call : Cl) (k : Nat) (a0 : (Int × ((List (List Int)) × Unit))) (a1 : (((List Int) × ((List Int) × Unit)) × (Int × ((List Int) × Unit)))) : Option R := Fm call k (fun a0_ a1_ v0_5_ => L0 call k a0_ a1_ k v0_5_) a0 a1
theorem L1_eq (call : Cl) (k : Nat) (J : Nat → St → Option R) (a0 : Y6_3) (a1 : Y6_0) (v0_5 : Int) (y0 : (List Int)) : ∀ (n : Nat) (x : Y6_9), siteI E call n_impl_holds__impl_searchOf_1 k s_impl_holds__impl_searchOf_1 (a0, a1, ()) J 1 n (S1 a0 a1 v0_5 y0 x.1 x.2) = L1 call k a1 v0_5 y0 (fun v0_5_ => J 0 (S0 a0 a1 v0_5_)) n x.1 x.2 := by
  refine loop_eq (E := E) (call := call) (f := n_impl_holds__impl_searchOf_1) (k := k) (s := s_impl_holds__impl_searchOf_1) (l := (a0, a1, ())) (J := J) (i := 1) (X := Y6_9) (fun x => S1 a0 a1 v0_5 y0 x.1 x.2) (fun n x => L1 call k a1 v0_5 y0 (fun v0_5_ => J 0 (S0 a0 a1 v0_5_)) n x.1 x.2) (fun r x => step1 call k a1 v0_5 y0 (fun v0_5_ => J 0 (S0 a0 a1 v0_5_))  (fun v1_3 v1_9 => r (v1_3, v1_9)) x.1 x.2) ?_ ?_ ?_
  · intro x; rfl
  · intro n x; rfl
  intro J0 x
  kernel_rfl
theorem L0_eq (call : Cl) (k : Nat) (J : Nat → St → Option R) (a0 : Y6_3) (a1 : Y6_0) : ∀ (n : Nat) (x : (Int)), siteI E call n_impl_holds__impl_searchOf_1 k s_impl_holds__impl_searchOf_1 (a0, a1, ()) J 0 n (S0 a0 a1 x) = L0 call k a0 a1  n x := by
  refine loop_eq (E := E) (call := call) (f := n_impl_holds__impl_searchOf_1) (k := k) (s := s_impl_holds__impl_searchOf_1) (l := (a0, a1, ())) (J := J) (i := 0) (X := (Int)) (fun x => S0 a0 a1 x) (fun n x => L0 call k a0 a1  n x) (fun r x => step0 call k a0 a1  (fun (a1 : Y6_0) (v0_5 : Int) (y0 : (List Int)) (v1_3_ : Bool) (v1_9_ : Int) => L1 call k a1 v0_5 y0 (fun v0_5_ => r v0_5_) k v1_3_ v1_9_) (fun v0_5 => r v0_5) x) ?_ ?_ ?_
  · intro x; rfl
  · intro n x; rfl
  intro J0 x
  refine Eq.trans (b := step0 call k a0 a1  (fun a1 v0_5 y0 v1_3_ v1_9_ => siteI E call n_impl_holds__impl_searchOf_1 k s_impl_holds__impl_searchOf_1 (a0, a1, ()) (upJ 0 J0 J) 1 k (S1 a0 a1 v0_5 y0 v1_3_ v1_9_)) (fun v0_5 => J0 (S0 a0 a1 v0_5)) x) (by kernel_rfl) ?_
  rw [show (fun (a1 : Y6_0) (v0_5 : Int) (y0 : (List Int)) (v1_3_ : Bool) (v1_9_ : Int) => siteI E call n_impl_holds__impl_searchOf_1 k s_impl_holds__impl_searchOf_1 (a0, a1, ()) (upJ 0 J0 J) 1 k (S1 a0 a1 v0_5 y0 v1_3_ v1_9_)) = (fun (a1 : Y6_0) (v0_5 : Int) (y0 : (List Int)) (v1_3_ : Bool) (v1_9_ : Int) => L1 call k a1 v0_5 y0 (fun v0_5_ => (upJ 0 J0 J) 0 (S0 a0 a1 v0_5_)) k v1_3_ v1_9_) from funext fun a1 => funext fun v0_5 => funext fun y0 => funext fun v1_3_ => funext fun v1_9_ => L1_eq call k (upJ 0 J0 J) a0 a1 v0_5 y0 k (v1_3_, v1_9_)]
  all_goals rfl
theorem F_eq (call : Cl) (k : Nat) (a0 : Y6_3) (a1 : Y6_0) : bodyK E call n_impl_holds__impl_searchOf_1 k s_impl_holds__impl_searchOf_1 (a0, a1, ()) = F call k a0 a1 := by
  exact Eq.trans (b := Fm call k (fun a0 a1 v0_5_ => siteI E call n_impl_holds__impl_searchOf_1 k s_impl_holds__impl_searchOf_1 (a0, a1, ()) (fun _ _ => none) 0 k (S0 a0 a1 v0_5_)) a0 a1) (by kernel_rfl) (congrArg (fun l => Fm call k l a0 a1) (funext fun a0 => funext fun a1 => funext fun v0_5_ => L0_eq call k (fun _ _ => none) a0 a1 k v0_5_))
end impl_holds__impl_searchOf_1
/-! #### impl_searchOf -/
namespace impl_searchOf
abbrev R := ((((List Int) × ((List Int) × Unit)) × Unit) × Unit)
def S1 (a0 : Y6_3) (y0 : Y6_5) (v0_3 : (List Int)) (v1_1 : Int) (v1_3 : (List Int)) : St := ⟨mkS 42 [(0, .v (.sptr (.pair (.int .i64) (.pair (.slc (.slc (.int .i64))) .unit))) (a0)), (2, .p [2] [] 0), (3, .p [3] [] 0), (4, .ap [4] 301), (7, .p [7] [] 0)], [([7], .box (.v (.int .i64) v1_1)), ([4], .list 158 (.int .i64) (v0_3)), ([3, 5, 1, 0], .list 3 (.int .i64) v1_3), ([3, 5, 0], .list 2 (.int .i64) (y0.fst.fst)), ([3], .box (.pr (.ref [3, 5, 0]) (.pr (.ref [3, 5, 1, 0]) (.v .unit ())))), ([2, 5, 1, 0], .list 3 (.int .i64) ([])), ([2, 5, 0], .list 2 (.int .i64) ([])), ([2], .box (.pr (.ref [2, 5, 0]) (.pr (.ref [2, 5, 1, 0]) (.v .unit ()))))]⟩
def S0 (a0 : Y6_3) (y0 : Y6_5) (v0_2 : Int) (v0_3 : (List Int)) : St := ⟨mkS 42 [(0, .v (.sptr (.pair (.int .i64) (.pair (.slc (.slc (.int .i64))) .unit))) (a0)), (2, .p [2] [] 0), (3, .p [3] [] 0), (4, .ap [4] 301), (12, .ref [3, 5, 0]), (13, .v (.int .i64) ((↑(List.length y0.fst.fst) : Int))), (14, .v (.int .i64) v0_2)], [([4], .list 158 (.int .i64) v0_3), ([3, 5, 1, 0], .list 3 (.int .i64) ([])), ([3, 5, 0], .list 2 (.int .i64) (y0.fst.fst)), ([3], .box (.pr (.ref [3, 5, 0]) (.pr (.ref [3, 5, 1, 0]) (.v .unit ())))), ([2, 5, 1, 0], .list 3 (.int .i64) ([])), ([2, 5, 0], .list 2 (.int .i64) ([])), ([2], .box (.pr (.ref [2, 5, 0]) (.pr (.ref [2, 5, 1, 0]) (.v .unit ()))))]⟩
def step1 (call : Cl) (k : Nat) (a0 : (Int × ((List (List Int)) × Unit))) (y0 : (((List Int) × Unit) × Unit)) (v0_3 : (List Int))   (r1 : (Int) → ((List Int)) → Option R) (v1_1 : Int) (v1_3 : (List Int)) : Option R :=
    bif decide ((↑(List.length y0.fst.fst) : Int) < (0 : Int)) then none
  else
    bif decide (v1_1 < shlI IntKind.i64 (1 : Int) (↑(List.length y0.fst.fst) : Int)) then
      (call (15600113 : Nat) s_impl_holds__impl_searchOf_1 (a0, ((y0.fst.fst, v1_3, ()), v1_1, v0_3, ()), ())).bind
        fun (y3 : (Bool × PUnit) × PUnit) =>
        bif y3.fst.fst then
          bif decide ((v1_3.length + [v1_1].length) * ti3.bytes ≤ (140737488355328 : Nat)) then
            r1 (IntKind.i64.wrap (v1_1 + (1 : Int))) (v1_3 ++ [v1_1])
          else none
        else r1 (IntKind.i64.wrap (v1_1 + (1 : Int))) v1_3
    else some (((y0.fst.fst, v1_3, ()), ()), ())
def L1 (call : Cl) (k : Nat) (a0 : (Int × ((List (List Int)) × Unit))) (y0 : (((List Int) × Unit) × Unit)) (v0_3 : (List Int))  : Nat → (Int) → ((List Int)) → Option R
    | 0, _, _ => none
    | n + 1, v1_1, v1_3 => step1 call k a0 y0 v0_3   (L1 call k a0 y0 v0_3  n) v1_1 v1_3
def step0 (call : Cl) (k : Nat) (y0 : (((List Int) × Unit) × Unit)) (a0 : (Int × ((List (List Int)) × Unit)))  (l1 : ((Int × ((List (List Int)) × Unit))) → ((((List Int) × Unit) × Unit)) → ((List Int)) → (Int) → ((List Int)) → Option R) (r0 : (Int) → ((List Int)) → Option R) (v0_2 : Int) (v0_3 : (List Int)) : Option R :=
    bif decide (v0_2 < (↑(List.length y0.fst.fst) : Int)) then
    bif decide ((0 : Int) ≤ v0_2) && decide (v0_2.toNat < List.length y0.fst.fst) then
      (lget y0.fst.fst v0_2.toNat).bind fun (y1 : Int) =>
        bif decide ((0 : Int) ≤ y1) && decide (y1.toNat < v0_3.length) then
          (lget v0_3 y1.toNat).bind fun (y2 : Int) => r0 (IntKind.i64.wrap (v0_2 + (1 : Int))) (v0_3.set y1.toNat v0_2)
        else none
    else none
  else l1 a0 y0 v0_3 (0 : Int) []
def L0 (call : Cl) (k : Nat) (y0 : (((List Int) × Unit) × Unit)) (a0 : (Int × ((List (List Int)) × Unit)))  : Nat → (Int) → ((List Int)) → Option R
    | 0, _, _ => none
    | n + 1, v0_2, v0_3 => step0 call k y0 a0  (fun a0_ y0_ v0_3_ v1_1_ v1_3_ => L1 call k a0_ y0_ v0_3_ k v1_1_ v1_3_) (L0 call k y0 a0  n) v0_2 v0_3
def Fm (call : Cl) (k : Nat) (l0 : ((((List Int) × Unit) × Unit)) → ((Int × ((List (List Int)) × Unit))) → (Int) → ((List Int)) → Option R) (a0 : (Int × ((List (List Int)) × Unit))) : Option R :=
    (call (99 : Nat) s_impl_usedBy (a0, ())).bind fun (y0 : (List Int × PUnit) × PUnit) =>
    l0 y0 a0 (0 : Int) (List.replicate (301 : Nat) (0 : Int))
def F (call : Cl) (k : Nat) (a0 : (Int × ((List (List Int)) × Unit))) : Option R := Fm call k (fun y0_ a0_ v0_2_ v0_3_ => L0 call k y0_ a0_ k v0_2_ v0_3_) a0
theorem L1_eq (call : Cl) (k : Nat) (J : Nat → St → Option R) (a0 : Y6_3) (y0 : Y6_5) (v0_3 : (List Int)) : ∀ (n : Nat) (x : Y6_7), siteI E call n_impl_searchOf k s_impl_searchOf (a0, ()) J 1 n (S1 a0 y0 v0_3 x.1 x.2) = L1 call k a0 y0 v0_3  n x.1 x.2 := by
  refine loop_eq (E := E) (call := call) (f := n_impl_searchOf) (k := k) (s := s_impl_searchOf) (l := (a0, ())) (J := J) (i := 1) (X := Y6_7) (fun x => S1 a0 y0 v0_3 x.1 x.2) (fun n x => L1 call k a0 y0 v0_3  n x.1 x.2) (fun r x => step1 call k a0 y0 v0_3   (fun v1_1 v1_3 => r (v1_1, v1_3)) x.1 x.2) ?_ ?_ ?_
  · intro x; rfl
  · intro n x; rfl
  intro J0 x
  kernel_rfl
theorem L0_eq (call : Cl) (k : Nat) (J : Nat → St → Option R) (a0 : Y6_3) (y0 : Y6_5) : ∀ (n : Nat) (x : Y6_7), siteI E call n_impl_searchOf k s_impl_searchOf (a0, ()) J 0 n (S0 a0 y0 x.1 x.2) = L0 call k y0 a0  n x.1 x.2 := by
  refine loop_eq (E := E) (call := call) (f := n_impl_searchOf) (k := k) (s := s_impl_searchOf) (l := (a0, ())) (J := J) (i := 0) (X := Y6_7) (fun x => S0 a0 y0 x.1 x.2) (fun n x => L0 call k y0 a0  n x.1 x.2) (fun r x => step0 call k y0 a0  (fun (a0 : Y6_3) (y0 : Y6_5) (v0_3 : (List Int)) (v1_1_ : Int) (v1_3_ : (List Int)) => L1 call k a0 y0 v0_3 k v1_1_ v1_3_) (fun v0_2 v0_3 => r (v0_2, v0_3)) x.1 x.2) ?_ ?_ ?_
  · intro x; rfl
  · intro n x; rfl
  intro J0 x
  refine Eq.trans (b := step0 call k y0 a0  (fun a0 y0 v0_3 v1_1_ v1_3_ => siteI E call n_impl_searchOf k s_impl_searchOf (a0, ()) (upJ 0 J0 J) 1 k (S1 a0 y0 v0_3 v1_1_ v1_3_)) (fun v0_2 v0_3 => J0 (S0 a0 y0 v0_2 v0_3)) x.1 x.2) (by kernel_rfl) ?_
  rw [show (fun (a0 : Y6_3) (y0 : Y6_5) (v0_3 : (List Int)) (v1_1_ : Int) (v1_3_ : (List Int)) => siteI E call n_impl_searchOf k s_impl_searchOf (a0, ()) (upJ 0 J0 J) 1 k (S1 a0 y0 v0_3 v1_1_ v1_3_)) = (fun (a0 : Y6_3) (y0 : Y6_5) (v0_3 : (List Int)) (v1_1_ : Int) (v1_3_ : (List Int)) => L1 call k a0 y0 v0_3 k v1_1_ v1_3_) from funext fun a0 => funext fun y0 => funext fun v0_3 => funext fun v1_1_ => funext fun v1_3_ => L1_eq call k (upJ 0 J0 J) a0 y0 v0_3 k (v1_1_, v1_3_)]
  all_goals rfl
theorem F_eq (call : Cl) (k : Nat) (a0 : Y6_3) : bodyK E call n_impl_searchOf k s_impl_searchOf (a0, ()) = F call k a0 := by
  exact Eq.trans (b := Fm call k (fun y0 a0 v0_2_ v0_3_ => siteI E call n_impl_searchOf k s_impl_searchOf (a0, ()) (fun _ _ => none) 0 k (S0 a0 y0 v0_2_ v0_3_)) a0) (by kernel_rfl) (congrArg (fun l => Fm call k l a0) (funext fun y0 => funext fun a0 => funext fun v0_2_ => funext fun v0_3_ => L0_eq call k (fun _ _ => none) a0 y0 k (v0_2_, v0_3_)))
end impl_searchOf
/-! #### spec_l14Models -/
namespace spec_l14Models
abbrev R := (((List (List Bool)) × Unit) × Unit)
def S1 (a0 : Y6_3) (y0 : Y6_5) (v0_0 : Int) (v0_2 : Y6_8) (y2 : Y6_4) (v1_1 : Int) (v1_2 : (List Bool)) : St := ⟨mkS 51 [(1, .p [1] [] 0), (3, .ref [3]), (4, .ref [4]), (5, .v (.int .i64) (v0_0)), (6, .ref [6]), (7, .ref [7]), (8, .v (.int .i64) v1_1)], [([7], .list 4 .bool v1_2), ([6], .list 4 .bool (y2.fst.fst)), ([4], .list 2 (.int .i64) (y0.fst.fst)), ([3], .list 53 (.own 4 .bool) (v0_2)), ([1], .box (.v (.pair (.int .i64) (.pair (.slc (.slc (.int .i64))) .unit)) ((a0.fst), ((a0.snd.fst), ()))))]⟩
def S0 (a0 : Y6_3) (y0 : Y6_5) (v0_0 : Int) (v0_2 : Y6_8) : St := ⟨mkS 51 [(1, .p [1] [] 0), (3, .ref [3]), (4, .ref [4]), (5, .v (.int .i64) v0_0)], [([4], .list 2 (.int .i64) (y0.fst.fst)), ([3], .list 53 (.own 4 .bool) v0_2), ([1], .box (.v (.pair (.int .i64) (.pair (.slc (.slc (.int .i64))) .unit)) ((a0.fst), ((a0.snd.fst), ()))))]⟩
def step1 (call : Cl) (k : Nat) (a0 : (Int × ((List (List Int)) × Unit))) (y0 : (((List Int) × Unit) × Unit)) (v0_0 : Int) (v0_2 : (List (List Bool))) (y2 : (((List Bool) × Unit) × Unit)) (r0 : (Int) → ((List (List Bool))) → Option R)  (r1 : (Int) → ((List Bool)) → Option R) (v1_1 : Int) (v1_2 : (List Bool)) : Option R :=
    bif decide (v1_1 < (↑(List.length y0.fst.fst) : Int)) then
    bif decide ((0 : Int) ≤ v1_1) && decide (v1_1.toNat < List.length y0.fst.fst) then
      (lget y0.fst.fst v1_1.toNat).bind fun (y3 : Int) =>
        bif decide ((0 : Int) ≤ v1_1) && decide (v1_1.toNat < List.length y2.fst.fst) then
          (lget y2.fst.fst v1_1.toNat).bind fun (y4 : Bool) =>
            bif
                decide ((0 : Int) ≤ IntKind.i64.wrap (y3 - (1 : Int))) &&
                  decide ((IntKind.i64.wrap (y3 - (1 : Int))).toNat < v1_2.length) then
              (lget v1_2 (IntKind.i64.wrap (y3 - (1 : Int))).toNat).bind fun (y5 : Bool) =>
                r1 (IntKind.i64.wrap (v1_1 + (1 : Int))) (v1_2.set (IntKind.i64.wrap (y3 - (1 : Int))).toNat y4)
            else none
        else none
    else none
  else
    (call (112 : Nat) s_spec_l14Holds ((a0.fst, a0.snd.fst, ()), v1_2, ())).bind fun (y6 : (Bool × PUnit) × PUnit) =>
      bif y6.fst.fst then
        bif decide ((v0_2.length + [v1_2].length) * ti53.bytes ≤ (140737488355328 : Nat)) then
          r0 (IntKind.i64.wrap (v0_0 + (1 : Int))) (v0_2 ++ [v1_2])
        else none
      else r0 (IntKind.i64.wrap (v0_0 + (1 : Int))) v0_2
def L1 (call : Cl) (k : Nat) (a0 : (Int × ((List (List Int)) × Unit))) (y0 : (((List Int) × Unit) × Unit)) (v0_0 : Int) (v0_2 : (List (List Bool))) (y2 : (((List Bool) × Unit) × Unit)) (r0 : (Int) → ((List (List Bool))) → Option R) : Nat → (Int) → ((List Bool)) → Option R
    | 0, _, _ => none
    | n + 1, v1_1, v1_2 => step1 call k a0 y0 v0_0 v0_2 y2 r0  (L1 call k a0 y0 v0_0 v0_2 y2 r0 n) v1_1 v1_2
def step0 (call : Cl) (k : Nat) (a0 : (Int × ((List (List Int)) × Unit))) (y0 : (((List Int) × Unit) × Unit))  (l1 : ((Int × ((List (List Int)) × Unit))) → ((((List Int) × Unit) × Unit)) → (Int) → ((List (List Bool))) → ((((List Bool) × Unit) × Unit)) → (Int) → ((List Bool)) → Option R) (r0 : (Int) → ((List (List Bool))) → Option R) (v0_0 : Int) (v0_2 : (List (List Bool))) : Option R :=
    (call (124 : Nat) s_spec_l13Size ((↑(List.length y0.fst.fst) : Int), ())).bind fun (y1 : (Int × PUnit) × PUnit) =>
    bif decide (v0_0 < y1.fst.fst) then
      (call (125 : Nat) s_spec_l13Bits ((↑(List.length y0.fst.fst) : Int), v0_0, ())).bind
        fun (y2 : (List Bool × PUnit) × PUnit) =>
        bif
            decide (a0.fst = a0.fst) && decide ((0 : Int) ≤ a0.fst) &&
              decide (a0.fst * (↑ti4.bytes : Int) ≤ (281474976710656 : Int)) then
          l1 a0 y0 v0_0 v0_2 y2 (0 : Int) (List.replicate a0.fst.toNat false)
        else none
    else some ((v0_2, ()), ())
def L0 (call : Cl) (k : Nat) (a0 : (Int × ((List (List Int)) × Unit))) (y0 : (((List Int) × Unit) × Unit))  : Nat → (Int) → ((List (List Bool))) → Option R
    | 0, _, _ => none
    | n + 1, v0_0, v0_2 => step0 call k a0 y0  (fun a0_ y0_ v0_0_ v0_2_ y2_ v1_1_ v1_2_ => L1 call k a0_ y0_ v0_0_ v0_2_ y2_ (L0 call k a0 y0  n) k v1_1_ v1_2_) (L0 call k a0 y0  n) v0_0 v0_2
def Fm (call : Cl) (k : Nat) (l0 : ((Int × ((List (List Int)) × Unit))) → ((((List Int) × Unit) × Unit)) → (Int) → ((List (List Bool))) → Option R) (a0 : (Int × ((List (List Int)) × Unit))) : Option R :=
    (call (96 : Nat) s_spec_l14Used (a0, ())).bind fun (y0 : (List Int × PUnit) × PUnit) => l0 a0 y0 (0 : Int) []
def F (call : Cl) (k : Nat) (a0 : (Int × ((List (List Int)) × Unit))) : Option R := Fm call k (fun a0_ y0_ v0_0_ v0_2_ => L0 call k a0_ y0_ k v0_0_ v0_2_) a0
theorem L1_eq (call : Cl) (k : Nat) (J : Nat → St → Option R) (a0 : Y6_3) (y0 : Y6_5) (v0_0 : Int) (v0_2 : Y6_8) (y2 : Y6_4) : ∀ (n : Nat) (x : Y6_6), siteI E call n_spec_l14Models k s_spec_l14Models (a0, ()) J 1 n (S1 a0 y0 v0_0 v0_2 y2 x.1 x.2) = L1 call k a0 y0 v0_0 v0_2 y2 (fun v0_0_ v0_2_ => J 0 (S0 a0 y0 v0_0_ v0_2_)) n x.1 x.2 := by
  refine loop_eq (E := E) (call := call) (f := n_spec_l14Models) (k := k) (s := s_spec_l14Models) (l := (a0, ())) (J := J) (i := 1) (X := Y6_6) (fun x => S1 a0 y0 v0_0 v0_2 y2 x.1 x.2) (fun n x => L1 call k a0 y0 v0_0 v0_2 y2 (fun v0_0_ v0_2_ => J 0 (S0 a0 y0 v0_0_ v0_2_)) n x.1 x.2) (fun r x => step1 call k a0 y0 v0_0 v0_2 y2 (fun v0_0_ v0_2_ => J 0 (S0 a0 y0 v0_0_ v0_2_))  (fun v1_1 v1_2 => r (v1_1, v1_2)) x.1 x.2) ?_ ?_ ?_
  · intro x; rfl
  · intro n x; rfl
  intro J0 x
  kernel_rfl
theorem L0_eq (call : Cl) (k : Nat) (J : Nat → St → Option R) (a0 : Y6_3) (y0 : Y6_5) : ∀ (n : Nat) (x : ((Int) × (Y6_8))), siteI E call n_spec_l14Models k s_spec_l14Models (a0, ()) J 0 n (S0 a0 y0 x.1 x.2) = L0 call k a0 y0  n x.1 x.2 := by
  refine loop_eq (E := E) (call := call) (f := n_spec_l14Models) (k := k) (s := s_spec_l14Models) (l := (a0, ())) (J := J) (i := 0) (X := ((Int) × (Y6_8))) (fun x => S0 a0 y0 x.1 x.2) (fun n x => L0 call k a0 y0  n x.1 x.2) (fun r x => step0 call k a0 y0  (fun (a0 : Y6_3) (y0 : Y6_5) (v0_0 : Int) (v0_2 : Y6_8) (y2 : Y6_4) (v1_1_ : Int) (v1_2_ : (List Bool)) => L1 call k a0 y0 v0_0 v0_2 y2 (fun v0_0_ v0_2_ => r (v0_0_, v0_2_)) k v1_1_ v1_2_) (fun v0_0 v0_2 => r (v0_0, v0_2)) x.1 x.2) ?_ ?_ ?_
  · intro x; rfl
  · intro n x; rfl
  intro J0 x
  refine Eq.trans (b := step0 call k a0 y0  (fun a0 y0 v0_0 v0_2 y2 v1_1_ v1_2_ => siteI E call n_spec_l14Models k s_spec_l14Models (a0, ()) (upJ 0 J0 J) 1 k (S1 a0 y0 v0_0 v0_2 y2 v1_1_ v1_2_)) (fun v0_0 v0_2 => J0 (S0 a0 y0 v0_0 v0_2)) x.1 x.2) (by kernel_rfl) ?_
  rw [show (fun (a0 : Y6_3) (y0 : Y6_5) (v0_0 : Int) (v0_2 : Y6_8) (y2 : Y6_4) (v1_1_ : Int) (v1_2_ : (List Bool)) => siteI E call n_spec_l14Models k s_spec_l14Models (a0, ()) (upJ 0 J0 J) 1 k (S1 a0 y0 v0_0 v0_2 y2 v1_1_ v1_2_)) = (fun (a0 : Y6_3) (y0 : Y6_5) (v0_0 : Int) (v0_2 : Y6_8) (y2 : Y6_4) (v1_1_ : Int) (v1_2_ : (List Bool)) => L1 call k a0 y0 v0_0 v0_2 y2 (fun v0_0_ v0_2_ => (upJ 0 J0 J) 0 (S0 a0 y0 v0_0_ v0_2_)) k v1_1_ v1_2_) from funext fun a0 => funext fun y0 => funext fun v0_0 => funext fun v0_2 => funext fun y2 => funext fun v1_1_ => funext fun v1_2_ => L1_eq call k (upJ 0 J0 J) a0 y0 v0_0 v0_2 y2 k (v1_1_, v1_2_)]
  all_goals rfl
theorem F_eq (call : Cl) (k : Nat) (a0 : Y6_3) : bodyK E call n_spec_l14Models k s_spec_l14Models (a0, ()) = F call k a0 := by
  exact Eq.trans (b := Fm call k (fun a0 y0 v0_0_ v0_2_ => siteI E call n_spec_l14Models k s_spec_l14Models (a0, ()) (fun _ _ => none) 0 k (S0 a0 y0 v0_0_ v0_2_)) a0) (by kernel_rfl) (congrArg (fun l => Fm call k l a0) (funext fun a0 => funext fun y0 => funext fun v0_0_ => funext fun v0_2_ => L0_eq call k (fun _ _ => none) a0 y0 k (v0_0_, v0_2_)))
end spec_l14Models
/-! #### spec_FirstModel -/
namespace spec_FirstModel
abbrev R := (((List Bool) × (Bool × Unit)) × Unit)
def Fm (call : Cl) (k : Nat)  (a0 : (Int × ((List (List Int)) × Unit))) : Option R :=
    (call (33 : Nat) s_spec_CnfOk (a0, ())).bind fun (y0 : (Bool × PUnit) × PUnit) =>
    bif !y0.fst.fst then some (([], false, ()), ())
    else
      (call (126 : Nat) s_spec_l14Models (a0, ())).bind fun (y1 : (List (List Bool) × PUnit) × PUnit) =>
        bif (↑(List.length y1.fst.fst) : Int) == (0 : Int) then some (([], false, ()), ())
        else (lget y1.fst.fst (Int.toNat (0 : Int))).bind fun (y2 : List Bool) => some ((y2, true, ()), ())
def F (call : Cl) (k : Nat) (a0 : (Int × ((List (List Int)) × Unit))) : Option R := Fm call k  a0
theorem F_eq (call : Cl) (k : Nat) (a0 : Y6_3) : bodyK E call n_spec_FirstModel k s_spec_FirstModel (a0, ()) = F call k a0 := by
  kernel_rfl
end spec_FirstModel
/-! #### impl_FirstModel -/
namespace impl_FirstModel
abbrev R := (((List Bool) × (Bool × Unit)) × Unit)
def S0 (y1 : Y6_1) (v0_1 : Int) (v0_2 : (List Bool)) : St := ⟨mkS 39 [(4, .p [4] [] 0), (5, .ref [5]), (20, .ref [4, 5, 0]), (21, .v (.int .i64) ((↑(List.length y1.fst.fst.fst) : Int))), (22, .v (.int .i64) v0_1)], [([5], .list 4 .bool v0_2), ([4, 5, 1, 0], .list 3 (.int .i64) (y1.fst.fst.snd.fst)), ([4, 5, 0], .list 2 (.int .i64) (y1.fst.fst.fst)), ([4], .box (.pr (.ref [4, 5, 0]) (.pr (.ref [4, 5, 1, 0]) (.v .unit ()))))]⟩
def step0 (call : Cl) (k : Nat) (y1 : ((((List Int) × ((List Int) × Unit)) × Unit) × Unit))   (r0 : (Int) → ((List Bool)) → Option R) (v0_1 : Int) (v0_2 : (List Bool)) : Option R :=
    bif decide (v0_1 < (↑(List.length y1.fst.fst.fst) : Int)) then
    bif decide ((0 : Int) ≤ v0_1) && decide (v0_1.toNat < List.length y1.fst.fst.fst) then
      (lget y1.fst.fst.fst v0_1.toNat).bind fun (y2 : Int) =>
        bif decide ((0 : Int) ≤ (0 : Int)) && decide (Int.toNat (0 : Int) < List.length y1.fst.fst.snd.fst) then
          (lget y1.fst.fst.snd.fst (Int.toNat (0 : Int))).bind fun (y3 : Int) =>
            (call (128 : Nat) s_impl_search_bitOf ((y1.fst.fst.fst, y1.fst.fst.snd.fst, ()), y3, v0_1, ())).bind
              fun (y4 : (Bool × PUnit) × PUnit) =>
              bif
                  decide ((0 : Int) ≤ IntKind.i64.wrap (y2 - (1 : Int))) &&
                    decide ((IntKind.i64.wrap (y2 - (1 : Int))).toNat < v0_2.length) then
                (lget v0_2 (IntKind.i64.wrap (y2 - (1 : Int))).toNat).bind fun (y5 : Bool) =>
                  r0 (IntKind.i64.wrap (v0_1 + (1 : Int))) (v0_2.set (IntKind.i64.wrap (y2 - (1 : Int))).toNat y4.fst.fst)
              else none
        else none
    else none
  else some ((v0_2, true, ()), ())
def L0 (call : Cl) (k : Nat) (y1 : ((((List Int) × ((List Int) × Unit)) × Unit) × Unit))  : Nat → (Int) → ((List Bool)) → Option R
    | 0, _, _ => none
    | n + 1, v0_1, v0_2 => step0 call k y1   (L0 call k y1  n) v0_1 v0_2
def Fm (call : Cl) (k : Nat) (l0 : (((((List Int) × ((List Int) × Unit)) × Unit) × Unit)) → (Int) → ((List Bool)) → Option R) (a0 : (Int × ((List (List Int)) × Unit))) : Option R :=
    (call (35 : Nat) s_impl_CnfOk (a0, ())).bind fun (y0 : (Bool × PUnit) × PUnit) =>
    bif !y0.fst.fst then some (([], false, ()), ())
    else
      (call (127 : Nat) s_impl_searchOf (a0, ())).bind fun (y1 : ((List Int × List Int × PUnit) × PUnit) × PUnit) =>
        bif (↑(List.length y1.fst.fst.snd.fst) : Int) == (0 : Int) then some (([], false, ()), ())
        else
          bif
              decide (a0.fst = a0.fst) && decide ((0 : Int) ≤ a0.fst) &&
                decide (a0.fst * (↑ti4.bytes : Int) ≤ (281474976710656 : Int)) then
            l0 y1 (0 : Int) (List.replicate (Int.toNat a0.fst) false)
          else none
def F (call : Cl) (k : Nat) (a0 : (Int × ((List (List Int)) × Unit))) : Option R := Fm call k (fun y1_ v0_1_ v0_2_ => L0 call k y1_ k v0_1_ v0_2_) a0
theorem L0_eq (call : Cl) (k : Nat) (J : Nat → St → Option R) (a0 : Y6_3) (y1 : Y6_1) : ∀ (n : Nat) (x : Y6_6), siteI E call n_impl_FirstModel k s_impl_FirstModel (a0, ()) J 0 n (S0 y1 x.1 x.2) = L0 call k y1  n x.1 x.2 := by
  refine loop_eq (E := E) (call := call) (f := n_impl_FirstModel) (k := k) (s := s_impl_FirstModel) (l := (a0, ())) (J := J) (i := 0) (X := Y6_6) (fun x => S0 y1 x.1 x.2) (fun n x => L0 call k y1  n x.1 x.2) (fun r x => step0 call k y1   (fun v0_1 v0_2 => r (v0_1, v0_2)) x.1 x.2) ?_ ?_ ?_
  · intro x; rfl
  · intro n x; rfl
  intro J0 x
  kernel_rfl
theorem F_eq (call : Cl) (k : Nat) (a0 : Y6_3) : bodyK E call n_impl_FirstModel k s_impl_FirstModel (a0, ()) = F call k a0 := by
  exact Eq.trans (b := Fm call k (fun y1 v0_1_ v0_2_ => siteI E call n_impl_FirstModel k s_impl_FirstModel (a0, ()) (fun _ _ => none) 0 k (S0 y1 v0_1_ v0_2_)) a0) (by kernel_rfl) (congrArg (fun l => Fm call k l a0) (funext fun y1 => funext fun v0_1_ => funext fun v0_2_ => L0_eq call k (fun _ _ => none) a0 y1 k (v0_1_, v0_2_)))
end impl_FirstModel
/-! #### spec_ForcedIn -/
namespace spec_ForcedIn
abbrev R := (((List Int) × Unit) × Unit)
def S1 (y1 : Y6_2) (y2 : Y6_5) (v0_1 : Int) (v0_3 : (List Int)) (y3 : Int) (v1_3 : Bool) (v1_4 : Int) : St := ⟨mkS 90 [(3, .ref [3]), (4, .v (.slc (.slc .bool)) (y1.fst.fst)), (5, .ref [5]), (6, .v (.int .i64) (v0_1)), (7, .v (.int .i64) (y3)), (8, .v .bool v1_3), (9, .v (.int .i64) v1_4)], [([5], .list 2 (.int .i64) (y2.fst.fst)), ([3], .list 2 (.int .i64) (v0_3))]⟩
def S0 (y1 : Y6_2) (y2 : Y6_5) (v0_1 : Int) (v0_3 : (List Int)) : St := ⟨mkS 90 [(3, .ref [3]), (4, .v (.slc (.slc .bool)) (y1.fst.fst)), (5, .ref [5]), (6, .v (.int .i64) v0_1)], [([5], .list 2 (.int .i64) (y2.fst.fst)), ([3], .list 2 (.int .i64) v0_3)]⟩
def step1 (call : Cl) (k : Nat) (y1 : (((List (List Bool)) × Unit) × Unit)) (v0_1 : Int) (v0_3 : (List Int)) (y3 : Int) (r0 : (Int) → ((List Int)) → Option R)  (r1 : (Bool) → (Int) → Option R) (v1_3 : Bool) (v1_4 : Int) : Option R :=
    bif decide (v1_4 < (↑(List.length y1.fst.fst) : Int)) then
    bif v1_3 then
      bif decide ((0 : Int) ≤ v1_4) then
        (lget y1.fst.fst v1_4.toNat).bind fun (y4 : List Bool) =>
          bif decide ((0 : Int) ≤ IntKind.i64.wrap (y3 - (1 : Int))) then
            (lget y4 (IntKind.i64.wrap (y3 - (1 : Int))).toNat).bind fun (y5 : Bool) =>
              (lget y1.fst.fst (Int.toNat (0 : Int))).bind fun (y6 : List Bool) =>
                bif decide ((0 : Int) ≤ IntKind.i64.wrap (y3 - (1 : Int))) then
                  (lget y6 (IntKind.i64.wrap (y3 - (1 : Int))).toNat).bind fun (y7 : Bool) =>
                    r1 (y5 == y7) (IntKind.i64.wrap (v1_4 + (1 : Int)))
                else none
          else none
      else none
    else r1 false (IntKind.i64.wrap (v1_4 + (1 : Int)))
  else
    bif v1_3 then
      (lget y1.fst.fst (Int.toNat (0 : Int))).bind fun (y8 : List Bool) =>
        bif decide ((0 : Int) ≤ IntKind.i64.wrap (y3 - (1 : Int))) then
          (lget y8 (IntKind.i64.wrap (y3 - (1 : Int))).toNat).bind fun (y9 : Bool) =>
            bif y9 then
              bif decide ((v0_3.length + [y3].length) * ti2.bytes ≤ (140737488355328 : Nat)) then
                bif v1_3 then
                  (lget y1.fst.fst (Int.toNat (0 : Int))).bind fun (y10 : List Bool) =>
                    bif decide ((0 : Int) ≤ IntKind.i64.wrap (y3 - (1 : Int))) then
                      (lget y10 (IntKind.i64.wrap (y3 - (1 : Int))).toNat).bind fun (y11 : Bool) =>
                        bif !y11 then
                          bif
                              decide
                                (((v0_3 ++ [y3]).length + [IntKind.i64.wrap ((0 : Int) - y3)].length) * ti2.bytes ≤
                                  (140737488355328 : Nat)) then
                            r0 (IntKind.i64.wrap (v0_1 + (1 : Int))) (v0_3 ++ [y3] ++ [IntKind.i64.wrap ((0 : Int) - y3)])
                          else none
                        else r0 (IntKind.i64.wrap (v0_1 + (1 : Int))) (v0_3 ++ [y3])
                    else none
                else r0 (IntKind.i64.wrap (v0_1 + (1 : Int))) (v0_3 ++ [y3])
              else none
            else
              bif v1_3 then
                (lget y1.fst.fst (Int.toNat (0 : Int))).bind fun (y12 : List Bool) =>
                  bif decide ((0 : Int) ≤ IntKind.i64.wrap (y3 - (1 : Int))) then
                    (lget y12 (IntKind.i64.wrap (y3 - (1 : Int))).toNat).bind fun (y13 : Bool) =>
                      bif !y13 then
                        bif
                            decide
                              ((v0_3.length + [IntKind.i64.wrap ((0 : Int) - y3)].length) * ti2.bytes ≤
                                (140737488355328 : Nat)) then
                          r0 (IntKind.i64.wrap (v0_1 + (1 : Int))) (v0_3 ++ [IntKind.i64.wrap ((0 : Int) - y3)])
                        else none
                      else r0 (IntKind.i64.wrap (v0_1 + (1 : Int))) v0_3
                  else none
              else r0 (IntKind.i64.wrap (v0_1 + (1 : Int))) v0_3
        else none
    else
      bif v1_3 then
        (lget y1.fst.fst (Int.toNat (0 : Int))).bind fun (y14 : List Bool) =>
          bif decide ((0 : Int) ≤ IntKind.i64.wrap (y3 - (1 : Int))) then
            (lget y14 (IntKind.i64.wrap (y3 - (1 : Int))).toNat).bind fun (y15 : Bool) =>
              bif !y15 then
                bif
                    decide
                      ((v0_3.length + [IntKind.i64.wrap ((0 : Int) - y3)].length) * ti2.bytes ≤
                        (140737488355328 : Nat)) then
                  r0 (IntKind.i64.wrap (v0_1 + (1 : Int))) (v0_3 ++ [IntKind.i64.wrap ((0 : Int) - y3)])
                else none
              else r0 (IntKind.i64.wrap (v0_1 + (1 : Int))) v0_3
          else none
      else r0 (IntKind.i64.wrap (v0_1 + (1 : Int))) v0_3
def L1 (call : Cl) (k : Nat) (y1 : (((List (List Bool)) × Unit) × Unit)) (v0_1 : Int) (v0_3 : (List Int)) (y3 : Int) (r0 : (Int) → ((List Int)) → Option R) : Nat → (Bool) → (Int) → Option R
    | 0, _, _ => none
    | n + 1, v1_3, v1_4 => step1 call k y1 v0_1 v0_3 y3 r0  (L1 call k y1 v0_1 v0_3 y3 r0 n) v1_3 v1_4
def step0 (call : Cl) (k : Nat) (y1 : (((List (List Bool)) × Unit) × Unit)) (y2 : (((List Int) × Unit) × Unit))  (l1 : ((((List (List Bool)) × Unit) × Unit)) → (Int) → ((List Int)) → (Int) → (Bool) → (Int) → Option R) (r0 : (Int) → ((List Int)) → Option R) (v0_1 : Int) (v0_3 : (List Int)) : Option R :=
    bif decide (v0_1 < (↑(List.length y2.fst.fst) : Int)) then
    bif decide ((↑(List.length y1.fst.fst) : Int) > (0 : Int)) then
      bif decide ((0 : Int) ≤ v0_1) && decide (v0_1.toNat < List.length y2.fst.fst) then
        (lget y2.fst.fst v0_1.toNat).bind fun (y3 : Int) => l1 y1 v0_1 v0_3 y3 true (0 : Int)
      else none
    else some ((v0_3, ()), ())
  else some ((v0_3, ()), ())
def L0 (call : Cl) (k : Nat) (y1 : (((List (List Bool)) × Unit) × Unit)) (y2 : (((List Int) × Unit) × Unit))  : Nat → (Int) → ((List Int)) → Option R
    | 0, _, _ => none
    | n + 1, v0_1, v0_3 => step0 call k y1 y2  (fun y1_ v0_1_ v0_3_ y3_ v1_3_ v1_4_ => L1 call k y1_ v0_1_ v0_3_ y3_ (L0 call k y1 y2  n) k v1_3_ v1_4_) (L0 call k y1 y2  n) v0_1 v0_3
def Fm (call : Cl) (k : Nat) (l0 : ((((List (List Bool)) × Unit) × Unit)) → ((((List Int) × Unit) × Unit)) → (Int) → ((List Int)) → Option R) (a0 : (Int × ((List (List Int)) × Unit))) : Option R :=
    (call (33 : Nat) s_spec_CnfOk (a0, ())).bind fun (y0 : (Bool × PUnit) × PUnit) =>
    bif !y0.fst.fst then some (([], ()), ())
    else
      (call (126 : Nat) s_spec_l14Models (a0, ())).bind fun (y1 : (List (List Bool) × PUnit) × PUnit) =>
        (call (96 : Nat) s_spec_l14Used (a0, ())).bind fun (y2 : (List Int × PUnit) × PUnit) => l0 y1 y2 (0 : Int) []
def F (call : Cl) (k : Nat) (a0 : (Int × ((List (List Int)) × Unit))) : Option R := Fm call k (fun y1_ y2_ v0_1_ v0_3_ => L0 call k y1_ y2_ k v0_1_ v0_3_) a0
theorem L1_eq (call : Cl) (k : Nat) (J : Nat → St → Option R) (a0 : Y6_3) (y1 : Y6_2) (y2 : Y6_5) (v0_1 : Int) (v0_3 : (List Int)) (y3 : Int) : ∀ (n : Nat) (x : Y6_9), siteI E call n_spec_ForcedIn k s_spec_ForcedIn (a0, ()) J 1 n (S1 y1 y2 v0_1 v0_3 y3 x.1 x.2) = L1 call k y1 v0_1 v0_3 y3 (fun v0_1_ v0_3_ => J 0 (S0 y1 y2 v0_1_ v0_3_)) n x.1 x.2 := by
  refine loop_eq (E := E) (call := call) (f := n_spec_ForcedIn) (k := k) (s := s_spec_ForcedIn) (l := (a0, ())) (J := J) (i := 1) (X := Y6_9) (fun x => S1 y1 y2 v0_1 v0_3 y3 x.1 x.2) (fun n x => L1 call k y1 v0_1 v0_3 y3 (fun v0_1_ v0_3_ => J 0 (S0 y1 y2 v0_1_ v0_3_)) n x.1 x.2) (fun r x => step1 call k y1 v0_1 v0_3 y3 (fun v0_1_ v0_3_ => J 0 (S0 y1 y2 v0_1_ v0_3_))  (fun v1_3 v1_4 => r (v1_3, v1_4)) x.1 x.2) ?_ ?_ ?_
  · intro x; rfl
  · intro n x; rfl
  intro J0 x
  kernel_rfl
theorem L0_eq (call : Cl) (k : Nat) (J : Nat → St → Option R) (a0 : Y6_3) (y1 : Y6_2) (y2 : Y6_5) : ∀ (n : Nat) (x : Y6_7), siteI E call n_spec_ForcedIn k s_spec_ForcedIn (a0, ()) J 0 n (S0 y1 y2 x.1 x.2) = L0 call k y1 y2  n x.1 x.2 := by
  refine loop_eq (E := E) (call := call) (f := n_spec_ForcedIn) (k := k) (s := s_spec_ForcedIn) (l := (a0, ())) (J := J) (i := 0) (X := Y6_7) (fun x => S0 y1 y2 x.1 x.2) (fun n x => L0 call k y1 y2  n x.1 x.2) (fun r x => step0 call k y1 y2  (fun (y1 : Y6_2) (v0_1 : Int) (v0_3 : (List Int)) (y3 : Int) (v1_3_ : Bool) (v1_4_ : Int) => L1 call k y1 v0_1 v0_3 y3 (fun v0_1_ v0_3_ => r (v0_1_, v0_3_)) k v1_3_ v1_4_) (fun v0_1 v0_3 => r (v0_1, v0_3)) x.1 x.2) ?_ ?_ ?_
  · intro x; rfl
  · intro n x; rfl
  intro J0 x
  refine Eq.trans (b := step0 call k y1 y2  (fun y1 v0_1 v0_3 y3 v1_3_ v1_4_ => siteI E call n_spec_ForcedIn k s_spec_ForcedIn (a0, ()) (upJ 0 J0 J) 1 k (S1 y1 y2 v0_1 v0_3 y3 v1_3_ v1_4_)) (fun v0_1 v0_3 => J0 (S0 y1 y2 v0_1 v0_3)) x.1 x.2) (by kernel_rfl) ?_
  rw [show (fun (y1 : Y6_2) (v0_1 : Int) (v0_3 : (List Int)) (y3 : Int) (v1_3_ : Bool) (v1_4_ : Int) => siteI E call n_spec_ForcedIn k s_spec_ForcedIn (a0, ()) (upJ 0 J0 J) 1 k (S1 y1 y2 v0_1 v0_3 y3 v1_3_ v1_4_)) = (fun (y1 : Y6_2) (v0_1 : Int) (v0_3 : (List Int)) (y3 : Int) (v1_3_ : Bool) (v1_4_ : Int) => L1 call k y1 v0_1 v0_3 y3 (fun v0_1_ v0_3_ => (upJ 0 J0 J) 0 (S0 y1 y2 v0_1_ v0_3_)) k v1_3_ v1_4_) from funext fun y1 => funext fun v0_1 => funext fun v0_3 => funext fun y3 => funext fun v1_3_ => funext fun v1_4_ => L1_eq call k (upJ 0 J0 J) a0 y1 y2 v0_1 v0_3 y3 k (v1_3_, v1_4_)]
  all_goals rfl
theorem F_eq (call : Cl) (k : Nat) (a0 : Y6_3) : bodyK E call n_spec_ForcedIn k s_spec_ForcedIn (a0, ()) = F call k a0 := by
  exact Eq.trans (b := Fm call k (fun y1 y2 v0_1_ v0_3_ => siteI E call n_spec_ForcedIn k s_spec_ForcedIn (a0, ()) (fun _ _ => none) 0 k (S0 y1 y2 v0_1_ v0_3_)) a0) (by kernel_rfl) (congrArg (fun l => Fm call k l a0) (funext fun y1 => funext fun y2 => funext fun v0_1_ => funext fun v0_3_ => L0_eq call k (fun _ _ => none) a0 y1 y2 k (v0_1_, v0_3_)))
end spec_ForcedIn
/-! #### impl_ForcedIn -/
namespace impl_ForcedIn
abbrev R := (((List Int) × Unit) × Unit)
def S1 (y1 : Y6_1) (v0_1 : Int) (v0_2 : (List Int)) (y2 : Int) (v1_2 : Int) (v1_6 : Int) : St := ⟨mkS 60 [(3, .p [3] [] 0), (4, .ref [4]), (5, .v (.int .i64) (v0_1)), (6, .v (.int .i64) (y2)), (7, .v (.int .i64) v1_2), (20, .ref [3, 5, 0]), (21, .v (.int .i64) ((↑(List.length y1.fst.fst.fst) : Int))), (22, .v (.int .i64) (v0_1)), (28, .ref [3, 5, 1, 0]), (29, .v (.int .i64) ((↑(List.length y1.fst.fst.snd.fst) : Int))), (30, .v (.int .i64) v1_6)], [([4], .list 2 (.int .i64) (v0_2)), ([3, 5, 1, 0], .list 3 (.int .i64) (y1.fst.fst.snd.fst)), ([3, 5, 0], .list 2 (.int .i64) (y1.fst.fst.fst)), ([3], .box (.pr (.ref [3, 5, 0]) (.pr (.ref [3, 5, 1, 0]) (.v .unit ()))))]⟩
def S0 (y1 : Y6_1) (v0_1 : Int) (v0_2 : (List Int)) : St := ⟨mkS 60 [(3, .p [3] [] 0), (4, .ref [4]), (20, .ref [3, 5, 0]), (21, .v (.int .i64) ((↑(List.length y1.fst.fst.fst) : Int))), (22, .v (.int .i64) v0_1)], [([4], .list 2 (.int .i64) v0_2), ([3, 5, 1, 0], .list 3 (.int .i64) (y1.fst.fst.snd.fst)), ([3, 5, 0], .list 2 (.int .i64) (y1.fst.fst.fst)), ([3], .box (.pr (.ref [3, 5, 0]) (.pr (.ref [3, 5, 1, 0]) (.v .unit ()))))]⟩
def step1 (call : Cl) (k : Nat) (y1 : ((((List Int) × ((List Int) × Unit)) × Unit) × Unit)) (v0_1 : Int) (v0_2 : (List Int)) (y2 : Int) (r0 : (Int) → ((List Int)) → Option R)  (r1 : (Int) → (Int) → Option R) (v1_2 : Int) (v1_6 : Int) : Option R :=
    bif decide (v1_6 < (↑(List.length y1.fst.fst.snd.fst) : Int)) then
    bif decide ((0 : Int) ≤ v1_6) && decide (v1_6.toNat < List.length y1.fst.fst.snd.fst) then
      (lget y1.fst.fst.snd.fst v1_6.toNat).bind fun (y3 : Int) =>
        (call (128 : Nat) s_impl_search_bitOf ((y1.fst.fst.fst, y1.fst.fst.snd.fst, ()), y3, v0_1, ())).bind
          fun (y4 : (Bool × PUnit) × PUnit) =>
          (call (93 : Nat) s_impl_truth (y4.fst.fst, ())).bind fun (y5 : (Int × PUnit) × PUnit) =>
            r1 (IntKind.i64.wrap (v1_2 + y5.fst.fst)) (IntKind.i64.wrap (v1_6 + (1 : Int)))
    else none
  else
    bif v1_2 == (↑(List.length y1.fst.fst.snd.fst) : Int) then
      bif decide ((v0_2.length + [y2].length) * ti2.bytes ≤ (140737488355328 : Nat)) then
        r0 (IntKind.i64.wrap (v0_1 + (1 : Int))) (v0_2 ++ [y2])
      else none
    else
      bif v1_2 == (0 : Int) then
        bif decide ((v0_2.length + [IntKind.i64.wrap ((0 : Int) - y2)].length) * ti2.bytes ≤ (140737488355328 : Nat)) then
          r0 (IntKind.i64.wrap (v0_1 + (1 : Int))) (v0_2 ++ [IntKind.i64.wrap ((0 : Int) - y2)])
        else none
      else r0 (IntKind.i64.wrap (v0_1 + (1 : Int))) v0_2
def L1 (call : Cl) (k : Nat) (y1 : ((((List Int) × ((List Int) × Unit)) × Unit) × Unit)) (v0_1 : Int) (v0_2 : (List Int)) (y2 : Int) (r0 : (Int) → ((List Int)) → Option R) : Nat → (Int) → (Int) → Option R
    | 0, _, _ => none
    | n + 1, v1_2, v1_6 => step1 call k y1 v0_1 v0_2 y2 r0  (L1 call k y1 v0_1 v0_2 y2 r0 n) v1_2 v1_6
def step0 (call : Cl) (k : Nat) (y1 : ((((List Int) × ((List Int) × Unit)) × Unit) × Unit))  (l1 : (((((List Int) × ((List Int) × Unit)) × Unit) × Unit)) → (Int) → ((List Int)) → (Int) → (Int) → (Int) → Option R) (r0 : (Int) → ((List Int)) → Option R) (v0_1 : Int) (v0_2 : (List Int)) : Option R :=
    bif decide (v0_1 < (↑(List.length y1.fst.fst.fst) : Int)) then
    bif decide ((0 : Int) ≤ v0_1) && decide (v0_1.toNat < List.length y1.fst.fst.fst) then
      (lget y1.fst.fst.fst v0_1.toNat).bind fun (y2 : Int) => l1 y1 v0_1 v0_2 y2 (0 : Int) (0 : Int)
    else none
  else some ((v0_2, ()), ())
def L0 (call : Cl) (k : Nat) (y1 : ((((List Int) × ((List Int) × Unit)) × Unit) × Unit))  : Nat → (Int) → ((List Int)) → Option R
    | 0, _, _ => none
    | n + 1, v0_1, v0_2 => step0 call k y1  (fun y1_ v0_1_ v0_2_ y2_ v1_2_ v1_6_ => L1 call k y1_ v0_1_ v0_2_ y2_ (L0 call k y1  n) k v1_2_ v1_6_) (L0 call k y1  n) v0_1 v0_2
def Fm (call : Cl) (k : Nat) (l0 : (((((List Int) × ((List Int) × Unit)) × Unit) × Unit)) → (Int) → ((List Int)) → Option R) (a0 : (Int × ((List (List Int)) × Unit))) : Option R :=
    (call (35 : Nat) s_impl_CnfOk (a0, ())).bind fun (y0 : (Bool × PUnit) × PUnit) =>
    bif !y0.fst.fst then some (([], ()), ())
    else
      (call (127 : Nat) s_impl_searchOf (a0, ())).bind fun (y1 : ((List Int × List Int × PUnit) × PUnit) × PUnit) =>
        bif (↑(List.length y1.fst.fst.snd.fst) : Int) == (0 : Int) then some (([], ()), ()) else l0 y1 (0 : Int) []
def F (call : Cl) (k : Nat) (a0 : (Int × ((List (List Int)) × Unit))) : Option R := Fm call k (fun y1_ v0_1_ v0_2_ => L0 call k y1_ k v0_1_ v0_2_) a0
theorem L1_eq (call : Cl) (k : Nat) (J : Nat → St → Option R) (a0 : Y6_3) (y1 : Y6_1) (v0_1 : Int) (v0_2 : (List Int)) (y2 : Int) : ∀ (n : Nat) (x : ((Int) × (Int))), siteI E call n_impl_ForcedIn k s_impl_ForcedIn (a0, ()) J 1 n (S1 y1 v0_1 v0_2 y2 x.1 x.2) = L1 call k y1 v0_1 v0_2 y2 (fun v0_1_ v0_2_ => J 0 (S0 y1 v0_1_ v0_2_)) n x.1 x.2 := by
  refine loop_eq (E := E) (call := call) (f := n_impl_ForcedIn) (k := k) (s := s_impl_ForcedIn) (l := (a0, ())) (J := J) (i := 1) (X := ((Int) × (Int))) (fun x => S1 y1 v0_1 v0_2 y2 x.1 x.2) (fun n x => L1 call k y1 v0_1 v0_2 y2 (fun v0_1_ v0_2_ => J 0 (S0 y1 v0_1_ v0_2_)) n x.1 x.2) (fun r x => step1 call k y1 v0_1 v0_2 y2 (fun v0_1_ v0_2_ => J 0 (S0 y1 v0_1_ v0_2_))  (fun v1_2 v1_6 => r (v1_2, v1_6)) x.1 x.2) ?_ ?_ ?_
  · intro x; rfl
  · intro n x; rfl
  intro J0 x
  kernel_rfl
theorem L0_eq (call : Cl) (k : Nat) (J : Nat → St → Option R) (a0 : Y6_3) (y1 : Y6_1) : ∀ (n : Nat) (x : Y6_7), siteI E call n_impl_ForcedIn k s_impl_ForcedIn (a0, ()) J 0 n (S0 y1 x.1 x.2) = L0 call k y1  n x.1 x.2 := by
  refine loop_eq (E := E) (call := call) (f := n_impl_ForcedIn) (k := k) (s := s_impl_ForcedIn) (l := (a0, ())) (J := J) (i := 0) (X := Y6_7) (fun x => S0 y1 x.1 x.2) (fun n x => L0 call k y1  n x.1 x.2) (fun r x => step0 call k y1  (fun (y1 : Y6_1) (v0_1 : Int) (v0_2 : (List Int)) (y2 : Int) (v1_2_ : Int) (v1_6_ : Int) => L1 call k y1 v0_1 v0_2 y2 (fun v0_1_ v0_2_ => r (v0_1_, v0_2_)) k v1_2_ v1_6_) (fun v0_1 v0_2 => r (v0_1, v0_2)) x.1 x.2) ?_ ?_ ?_
  · intro x; rfl
  · intro n x; rfl
  intro J0 x
  refine Eq.trans (b := step0 call k y1  (fun y1 v0_1 v0_2 y2 v1_2_ v1_6_ => siteI E call n_impl_ForcedIn k s_impl_ForcedIn (a0, ()) (upJ 0 J0 J) 1 k (S1 y1 v0_1 v0_2 y2 v1_2_ v1_6_)) (fun v0_1 v0_2 => J0 (S0 y1 v0_1 v0_2)) x.1 x.2) (by kernel_rfl) ?_
  rw [show (fun (y1 : Y6_1) (v0_1 : Int) (v0_2 : (List Int)) (y2 : Int) (v1_2_ : Int) (v1_6_ : Int) => siteI E call n_impl_ForcedIn k s_impl_ForcedIn (a0, ()) (upJ 0 J0 J) 1 k (S1 y1 v0_1 v0_2 y2 v1_2_ v1_6_)) = (fun (y1 : Y6_1) (v0_1 : Int) (v0_2 : (List Int)) (y2 : Int) (v1_2_ : Int) (v1_6_ : Int) => L1 call k y1 v0_1 v0_2 y2 (fun v0_1_ v0_2_ => (upJ 0 J0 J) 0 (S0 y1 v0_1_ v0_2_)) k v1_2_ v1_6_) from funext fun y1 => funext fun v0_1 => funext fun v0_2 => funext fun y2 => funext fun v1_2_ => funext fun v1_6_ => L1_eq call k (upJ 0 J0 J) a0 y1 v0_1 v0_2 y2 k (v1_2_, v1_6_)]
  all_goals rfl
theorem F_eq (call : Cl) (k : Nat) (a0 : Y6_3) : bodyK E call n_impl_ForcedIn k s_impl_ForcedIn (a0, ()) = F call k a0 := by
  exact Eq.trans (b := Fm call k (fun y1 v0_1_ v0_2_ => siteI E call n_impl_ForcedIn k s_impl_ForcedIn (a0, ()) (fun _ _ => none) 0 k (S0 y1 v0_1_ v0_2_)) a0) (by kernel_rfl) (congrArg (fun l => Fm call k l a0) (funext fun y1 => funext fun v0_1_ => funext fun v0_2_ => L0_eq call k (fun _ _ => none) a0 y1 k (v0_1_, v0_2_)))
end impl_ForcedIn
end Go.Proofs.Ytcmgjdmhemfecaa.Pf
