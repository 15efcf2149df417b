/- Printed texts: what the reading of these functions is. No condition. -/
import Derived.Test.YtcmgjdmhemfecaaPvEnv
import Derived.KernelRfl
set_option linter.unusedVariables false
namespace Go.Proofs.Ytcmgjdmhemfecaa.Pf
open Go Go.Pv
abbrev Y7_0 := ((Int) × (Int) × ((List Int)))
abbrev Y7_1 := ((Int) × ((List Int)))
/-! #### impl_NatOf -/
namespace impl_NatOf
abbrev R := (((List Int) × Unit) × Unit)
def S0 (v0_0 : Int) (v0_1 : (List Int)) : St := ⟨mkS 15 [(0, .v (.int .i64) v0_0), (3, .ref [3])], [([3], .list 2 (.int .i64) v0_1)]⟩
def step0 (call : Cl) (k : Nat)    (r0 : (Int) → ((List Int)) → Option R) (v0_0 : Int) (v0_1 : (List Int)) : Option R :=
    bif decide (v0_0 > (0 : Int)) then
    bif decide ((v0_1.length + [v0_0.tmod (10000 : Int)].length) * ti2.bytes ≤ (140737488355328 : Nat)) then
      r0 (IntKind.i64.wrap (v0_0.tdiv (10000 : Int))) (v0_1 ++ [v0_0.tmod (10000 : Int)])
    else none
  else some ((v0_1, ()), ())
def L0 (call : Cl) (k : Nat)   : Nat → (Int) → ((List Int)) → Option R
    | 0, _, _ => none
    | n + 1, v0_0, v0_1 => step0 call k    (L0 call k   n) v0_0 v0_1
def Fm (call : Cl) (k : Nat) (l0 : (Int) → ((List Int)) → Option R) (a0 : Int) : Option R :=
    l0 a0 []
def F (call : Cl) (k : Nat) (a0 : Int) : Option R := Fm call k (fun v0_0_ v0_1_ => L0 call k  k v0_0_ v0_1_) a0
theorem L0_eq (call : Cl) (k : Nat) (J : Nat → St → Option R) (a0 : Int) : ∀ (n : Nat) (x : Y7_1), siteI E call n_impl_NatOf k s_impl_NatOf (a0, ()) J 0 n (S0  x.1 x.2) = L0 call k   n x.1 x.2 := by
  refine loop_eq (E := E) (call := call) (f := n_impl_NatOf) (k := k) (s := s_impl_NatOf) (l := (a0, ())) (J := J) (i := 0) (X := Y7_1) (fun x => S0  x.1 x.2) (fun n x => L0 call k   n x.1 x.2) (fun r x => step0 call k    (fun v0_0 v0_1 => r (v0_0, v0_1)) x.1 x.2) ?_ ?_ ?_
  · intro x; rfl
  · intro n x; rfl
  intro J0 x
  kernel_rfl
theorem F_eq (call : Cl) (k : Nat) (a0 : Int) : bodyK E call n_impl_NatOf k s_impl_NatOf (a0, ()) = F call k a0 := by
  exact Eq.trans (b := Fm call k (fun v0_0_ v0_1_ => siteI E call n_impl_NatOf k s_impl_NatOf (a0, ()) (fun _ _ => none) 0 k (S0 v0_0_ v0_1_)) a0) (by kernel_rfl) (congrArg (fun l => Fm call k l a0) (funext fun v0_0_ => funext fun v0_1_ => L0_eq call k (fun _ _ => none) a0 k (v0_0_, v0_1_)))
end impl_NatOf
/-! #### impl_great_place -/
namespace impl_great_place
abbrev R := ((Int × Unit) × Unit)
def Fm (call : Cl) (k : Nat)  (a0 : (List Int)) (a1 : Int) : Option R :=
    bif decide (a1 < (↑a0.length : Int)) then
    bif decide ((0 : Int) ≤ a1) then (lget a0 a1.toNat).bind fun (y0 : Int) => some ((y0, ()), ()) else none
  else some (((0 : Int), ()), ())
def F (call : Cl) (k : Nat) (a0 : (List Int)) (a1 : Int) : Option R := Fm call k  a0 a1
theorem F_eq (call : Cl) (k : Nat) (a0 : (List Int)) (a1 : Int) : bodyK E call n_impl_great_place k s_impl_great_place (a0, a1, ()) = F call k a0 a1 := by
  kernel_rfl
end impl_great_place
/-! #### impl_great_plus -/
namespace impl_great_plus
abbrev R := (((List Int) × Unit) × Unit)
def S0 (a0 : (List Int)) (a1 : (List Int)) (v0_2 : Int) (v0_3 : Int) (v0_4 : (List Int)) : St := ⟨mkS 43 [(0, .v (.slc (.int .i64)) (a0)), (1, .v (.slc (.int .i64)) (a1)), (5, .ref [5]), (6, .v (.int .i64) v0_2), (7, .v (.int .i64) v0_3)], [([5], .list 2 (.int .i64) v0_4)]⟩
def step0 (call : Cl) (k : Nat) (a0 : (List Int)) (a1 : (List Int))   (r0 : (Int) → (Int) → ((List Int)) → Option R) (v0_2 : Int) (v0_3 : Int) (v0_4 : (List Int)) : Option R :=
    bif decide (v0_3 < (↑a0.length : Int)) then
    (call (165 : Nat) s_impl_great_place (a0, v0_3, ())).bind fun (y0 : (Int × PUnit) × PUnit) =>
      (call (165 : Nat) s_impl_great_place (a1, v0_3, ())).bind fun (y1 : (Int × PUnit) × PUnit) =>
        bif
            decide
              ((v0_4.length +
                    [(IntKind.i64.wrap (IntKind.i64.wrap (y0.fst.fst + y1.fst.fst) + v0_2)).tmod (10000 : Int)].length) *
                  ti2.bytes ≤
                (140737488355328 : Nat)) then
          r0
            (IntKind.i64.wrap ((IntKind.i64.wrap (IntKind.i64.wrap (y0.fst.fst + y1.fst.fst) + v0_2)).tdiv (10000 : Int)))
            (IntKind.i64.wrap (v0_3 + (1 : Int)))
            (v0_4 ++ [(IntKind.i64.wrap (IntKind.i64.wrap (y0.fst.fst + y1.fst.fst) + v0_2)).tmod (10000 : Int)])
        else none
  else
    bif decide (v0_3 < (↑a1.length : Int)) then
      (call (165 : Nat) s_impl_great_place (a0, v0_3, ())).bind fun (y2 : (Int × PUnit) × PUnit) =>
        (call (165 : Nat) s_impl_great_place (a1, v0_3, ())).bind fun (y3 : (Int × PUnit) × PUnit) =>
          bif
              decide
                ((v0_4.length +
                      [(IntKind.i64.wrap (IntKind.i64.wrap (y2.fst.fst + y3.fst.fst) + v0_2)).tmod
                            (10000 : Int)].length) *
                    ti2.bytes ≤
                  (140737488355328 : Nat)) then
            r0
              (IntKind.i64.wrap
                ((IntKind.i64.wrap (IntKind.i64.wrap (y2.fst.fst + y3.fst.fst) + v0_2)).tdiv (10000 : Int)))
              (IntKind.i64.wrap (v0_3 + (1 : Int)))
              (v0_4 ++ [(IntKind.i64.wrap (IntKind.i64.wrap (y2.fst.fst + y3.fst.fst) + v0_2)).tmod (10000 : Int)])
          else none
    else
      bif decide (v0_2 > (0 : Int)) then
        (call (165 : Nat) s_impl_great_place (a0, v0_3, ())).bind fun (y4 : (Int × PUnit) × PUnit) =>
          (call (165 : Nat) s_impl_great_place (a1, v0_3, ())).bind fun (y5 : (Int × PUnit) × PUnit) =>
            bif
                decide
                  ((v0_4.length +
                        [(IntKind.i64.wrap (IntKind.i64.wrap (y4.fst.fst + y5.fst.fst) + v0_2)).tmod
                              (10000 : Int)].length) *
                      ti2.bytes ≤
                    (140737488355328 : Nat)) then
              r0
                (IntKind.i64.wrap
                  ((IntKind.i64.wrap (IntKind.i64.wrap (y4.fst.fst + y5.fst.fst) + v0_2)).tdiv (10000 : Int)))
                (IntKind.i64.wrap (v0_3 + (1 : Int)))
                (v0_4 ++ [(IntKind.i64.wrap (IntKind.i64.wrap (y4.fst.fst + y5.fst.fst) + v0_2)).tmod (10000 : Int)])
            else none
      else some ((v0_4, ()), ())
def L0 (call : Cl) (k : Nat) (a0 : (List Int)) (a1 : (List Int))  : Nat → (Int) → (Int) → ((List Int)) → Option R
    | 0, _, _, _ => none
    | n + 1, v0_2, v0_3, v0_4 => step0 call k a0 a1   (L0 call k a0 a1  n) v0_2 v0_3 v0_4
def Fm (call : Cl) (k : Nat) (l0 : ((List Int)) → ((List Int)) → (Int) → (Int) → ((List Int)) → Option R) (a0 : (List Int)) (a1 : (List Int)) : Option R :=
    l0 a0 a1 (0 : Int) (0 : Int) []
def F (call : Cl) (k : Nat) (a0 : (List Int)) (a1 : (List Int)) : Option R := Fm call k (fun a0_ a1_ v0_2_ v0_3_ v0_4_ => L0 call k a0_ a1_ k v0_2_ v0_3_ v0_4_) a0 a1
theorem L0_eq (call : Cl) (k : Nat) (J : Nat → St → Option R) (a0 : (List Int)) (a1 : (List Int)) : ∀ (n : Nat) (x : Y7_0), siteI E call n_impl_great_plus k s_impl_great_plus (a0, a1, ()) J 0 n (S0 a0 a1 x.1 x.2.1 x.2.2) = L0 call k a0 a1  n x.1 x.2.1 x.2.2 := by
  refine loop_eq (E := E) (call := call) (f := n_impl_great_plus) (k := k) (s := s_impl_great_plus) (l := (a0, a1, ())) (J := J) (i := 0) (X := Y7_0) (fun x => S0 a0 a1 x.1 x.2.1 x.2.2) (fun n x => L0 call k a0 a1  n x.1 x.2.1 x.2.2) (fun r x => step0 call k a0 a1   (fun v0_2 v0_3 v0_4 => r (v0_2, v0_3, v0_4)) x.1 x.2.1 x.2.2) ?_ ?_ ?_
  · intro x; rfl
  · intro n x; rfl
  intro J0 x
  kernel_rfl
theorem F_eq (call : Cl) (k : Nat) (a0 : (List Int)) (a1 : (List Int)) : bodyK E call n_impl_great_plus k s_impl_great_plus (a0, a1, ()) = F call k a0 a1 := by
  exact Eq.trans (b := Fm call k (fun a0 a1 v0_2_ v0_3_ v0_4_ => siteI E call n_impl_great_plus k s_impl_great_plus (a0, a1, ()) (fun _ _ => none) 0 k (S0 a0 a1 v0_2_ v0_3_ v0_4_)) a0 a1) (by kernel_rfl) (congrArg (fun l => Fm call k l a0 a1) (funext fun a0 => funext fun a1 => funext fun v0_2_ => funext fun v0_3_ => funext fun v0_4_ => L0_eq call k (fun _ _ => none) a0 a1 k (v0_2_, v0_3_, v0_4_)))
end impl_great_plus
/-! #### impl_doubled -/
namespace impl_doubled
abbrev R := (((List Int) × Unit) × Unit)
def S0 (v0_0 : Int) (v0_1 : (List Int)) : St := ⟨mkS 16 [(1, .v (.int .i64) v0_0), (5, .ref [5])], [([5], .list 2 (.int .i64) v0_1)]⟩
def step0 (call : Cl) (k : Nat)    (r0 : (Int) → ((List Int)) → Option R) (v0_0 : Int) (v0_1 : (List Int)) : Option R :=
    bif decide (v0_0 > (0 : Int)) then
    (call (159 : Nat) s_impl_great_plus (v0_1, v0_1, ())).bind fun (y1 : (List Int × PUnit) × PUnit) =>
      r0 (IntKind.i64.wrap (v0_0 - (1 : Int))) y1.fst.fst
  else some ((v0_1, ()), ())
def L0 (call : Cl) (k : Nat)   : Nat → (Int) → ((List Int)) → Option R
    | 0, _, _ => none
    | n + 1, v0_0, v0_1 => step0 call k    (L0 call k   n) v0_0 v0_1
def Fm (call : Cl) (k : Nat) (l0 : (Int) → ((List Int)) → Option R) (a0 : Int) (a1 : Int) : Option R :=
    (call (158 : Nat) s_impl_NatOf (a0, ())).bind fun (y0 : (List Int × PUnit) × PUnit) => l0 a1 y0.fst.fst
def F (call : Cl) (k : Nat) (a0 : Int) (a1 : Int) : Option R := Fm call k (fun v0_0_ v0_1_ => L0 call k  k v0_0_ v0_1_) a0 a1
theorem L0_eq (call : Cl) (k : Nat) (J : Nat → St → Option R) (a0 : Int) (a1 : Int) : ∀ (n : Nat) (x : Y7_1), siteI E call n_impl_doubled k s_impl_doubled (a0, a1, ()) J 0 n (S0  x.1 x.2) = L0 call k   n x.1 x.2 := by
  refine loop_eq (E := E) (call := call) (f := n_impl_doubled) (k := k) (s := s_impl_doubled) (l := (a0, a1, ())) (J := J) (i := 0) (X := Y7_1) (fun x => S0  x.1 x.2) (fun n x => L0 call k   n x.1 x.2) (fun r x => step0 call k    (fun v0_0 v0_1 => r (v0_0, v0_1)) x.1 x.2) ?_ ?_ ?_
  · intro x; rfl
  · intro n x; rfl
  intro J0 x
  kernel_rfl
theorem F_eq (call : Cl) (k : Nat) (a0 : Int) (a1 : Int) : bodyK E call n_impl_doubled k s_impl_doubled (a0, a1, ()) = F call k a0 a1 := by
  exact Eq.trans (b := Fm call k (fun v0_0_ v0_1_ => siteI E call n_impl_doubled k s_impl_doubled (a0, a1, ()) (fun _ _ => none) 0 k (S0 v0_0_ v0_1_)) a0 a1) (by kernel_rfl) (congrArg (fun l => Fm call k l a0 a1) (funext fun v0_0_ => funext fun v0_1_ => L0_eq call k (fun _ _ => none) a0 a1 k (v0_0_, v0_1_)))
end impl_doubled
/-! #### impl_CountCnf -/
namespace impl_CountCnf
abbrev R := (((List Int) × Unit) × Unit)
def Fm (call : Cl) (k : Nat)  (a0 : (Int × ((List (List Int)) × Unit))) : Option R :=
    (call (35 : Nat) s_impl_CnfOk (a0, ())).bind fun (y0 : (Bool × PUnit) × PUnit) =>
    bif !y0.fst.fst then some (([], ()), ())
    else
      (call (127 : Nat) s_impl_searchOf (a0, ())).bind fun (y1 : ((List Int × List Int × PUnit) × PUnit) × PUnit) =>
        (call (136 : Nat) s_impl_doubled
              ((↑(List.length y1.fst.fst.snd.fst) : Int),
                IntKind.i64.wrap (a0.fst - (↑(List.length y1.fst.fst.fst) : Int)), ())).bind
          fun (y2 : (List Int × PUnit) × PUnit) => some ((y2.fst.fst, ()), ())
def F (call : Cl) (k : Nat) (a0 : (Int × ((List (List Int)) × Unit))) : Option R := Fm call k  a0
theorem F_eq (call : Cl) (k : Nat) (a0 : (Int × ((List (List Int)) × Unit))) : bodyK E call n_impl_CountCnf k s_impl_CountCnf (a0, ()) = F call k a0 := by
  kernel_rfl
end impl_CountCnf
/-! #### spec_NatOf -/
namespace spec_NatOf
abbrev R := (((List Int) × Unit) × Unit)
def S0 (v0_0 : Int) (v0_1 : (List Int)) : St := ⟨mkS 15 [(0, .v (.int .i64) v0_0), (3, .ref [3])], [([3], .list 2 (.int .i64) v0_1)]⟩
def step0 (call : Cl) (k : Nat)    (r0 : (Int) → ((List Int)) → Option R) (v0_0 : Int) (v0_1 : (List Int)) : Option R :=
    bif decide (v0_0 > (0 : Int)) then
    bif decide ((v0_1.length + [v0_0.tmod (10000 : Int)].length) * ti2.bytes ≤ (140737488355328 : Nat)) then
      r0 (IntKind.i64.wrap (v0_0.tdiv (10000 : Int))) (v0_1 ++ [v0_0.tmod (10000 : Int)])
    else none
  else some ((v0_1, ()), ())
def L0 (call : Cl) (k : Nat)   : Nat → (Int) → ((List Int)) → Option R
    | 0, _, _ => none
    | n + 1, v0_0, v0_1 => step0 call k    (L0 call k   n) v0_0 v0_1
def Fm (call : Cl) (k : Nat) (l0 : (Int) → ((List Int)) → Option R) (a0 : Int) : Option R :=
    l0 a0 []
def F (call : Cl) (k : Nat) (a0 : Int) : Option R := Fm call k (fun v0_0_ v0_1_ => L0 call k  k v0_0_ v0_1_) a0
theorem L0_eq (call : Cl) (k : Nat) (J : Nat → St → Option R) (a0 : Int) : ∀ (n : Nat) (x : Y7_1), siteI E call n_spec_NatOf k s_spec_NatOf (a0, ()) J 0 n (S0  x.1 x.2) = L0 call k   n x.1 x.2 := by
  refine loop_eq (E := E) (call := call) (f := n_spec_NatOf) (k := k) (s := s_spec_NatOf) (l := (a0, ())) (J := J) (i := 0) (X := Y7_1) (fun x => S0  x.1 x.2) (fun n x => L0 call k   n x.1 x.2) (fun r x => step0 call k    (fun v0_0 v0_1 => r (v0_0, v0_1)) x.1 x.2) ?_ ?_ ?_
  · intro x; rfl
  · intro n x; rfl
  intro J0 x
  kernel_rfl
theorem F_eq (call : Cl) (k : Nat) (a0 : Int) : bodyK E call n_spec_NatOf k s_spec_NatOf (a0, ()) = F call k a0 := by
  exact Eq.trans (b := Fm call k (fun v0_0_ v0_1_ => siteI E call n_spec_NatOf k s_spec_NatOf (a0, ()) (fun _ _ => none) 0 k (S0 v0_0_ v0_1_)) a0) (by kernel_rfl) (congrArg (fun l => Fm call k l a0) (funext fun v0_0_ => funext fun v0_1_ => L0_eq call k (fun _ _ => none) a0 k (v0_0_, v0_1_)))
end spec_NatOf
/-! #### spec_PowerNat -/
namespace spec_PowerNat
abbrev R := (((List Int) × (Bool × Unit)) × Unit)
def S0 (v0_0 : Int) (v0_1 : (List Int)) : St := ⟨mkS 21 [(0, .v (.int .i64) v0_0), (4, .ref [4])], [([4], .list 2 (.int .i64) v0_1)]⟩
def step0 (call : Cl) (k : Nat)    (r0 : (Int) → ((List Int)) → Option R) (v0_0 : Int) (v0_1 : (List Int)) : Option R :=
    bif decide (v0_0 > (0 : Int)) then
    (call (85 : Nat) s_spec_AddNat (v0_1, v0_1, ())).bind fun (y1 : (List Int × Bool × PUnit) × PUnit) =>
      r0 (IntKind.i64.wrap (v0_0 - (1 : Int))) y1.fst.fst
  else some ((v0_1, true, ()), ())
def L0 (call : Cl) (k : Nat)   : Nat → (Int) → ((List Int)) → Option R
    | 0, _, _ => none
    | n + 1, v0_0, v0_1 => step0 call k    (L0 call k   n) v0_0 v0_1
def Fm (call : Cl) (k : Nat) (l0 : (Int) → ((List Int)) → Option R) (a0 : Int) : Option R :=
    (call (88 : Nat) s_spec_l1In (a0, (0 : Int), (1000 : Int), ())).bind fun (y0 : (Bool × PUnit) × PUnit) =>
    bif !y0.fst.fst then some (([], false, ()), ()) else l0 a0 [(1 : Int)]
def F (call : Cl) (k : Nat) (a0 : Int) : Option R := Fm call k (fun v0_0_ v0_1_ => L0 call k  k v0_0_ v0_1_) a0
theorem L0_eq (call : Cl) (k : Nat) (J : Nat → St → Option R) (a0 : Int) : ∀ (n : Nat) (x : Y7_1), siteI E call n_spec_PowerNat k s_spec_PowerNat (a0, ()) J 0 n (S0  x.1 x.2) = L0 call k   n x.1 x.2 := by
  refine loop_eq (E := E) (call := call) (f := n_spec_PowerNat) (k := k) (s := s_spec_PowerNat) (l := (a0, ())) (J := J) (i := 0) (X := Y7_1) (fun x => S0  x.1 x.2) (fun n x => L0 call k   n x.1 x.2) (fun r x => step0 call k    (fun v0_0 v0_1 => r (v0_0, v0_1)) x.1 x.2) ?_ ?_ ?_
  · intro x; rfl
  · intro n x; rfl
  intro J0 x
  kernel_rfl
theorem F_eq (call : Cl) (k : Nat) (a0 : Int) : bodyK E call n_spec_PowerNat k s_spec_PowerNat (a0, ()) = F call k a0 := by
  exact Eq.trans (b := Fm call k (fun v0_0_ v0_1_ => siteI E call n_spec_PowerNat k s_spec_PowerNat (a0, ()) (fun _ _ => none) 0 k (S0 v0_0_ v0_1_)) a0) (by kernel_rfl) (congrArg (fun l => Fm call k l a0) (funext fun v0_0_ => funext fun v0_1_ => L0_eq call k (fun _ _ => none) a0 k (v0_0_, v0_1_)))
end spec_PowerNat
/-! #### spec_AddNat -/
namespace spec_AddNat
abbrev R := (((List Int) × (Bool × Unit)) × Unit)
def S0 (a0 : (List Int)) (a1 : (List Int)) (v0_2 : Int) (v0_3 : (List Int)) : St := ⟨mkS 43 [(0, .v (.slc (.int .i64)) (a0)), (1, .v (.slc (.int .i64)) (a1)), (6, .ref [6]), (7, .v (.int .i64) v0_2)], [([6], .list 2 (.int .i64) v0_3)]⟩
def step0 (call : Cl) (k : Nat) (a0 : (List Int)) (a1 : (List Int))   (r0 : (Int) → ((List Int)) → Option R) (v0_2 : Int) (v0_3 : (List Int)) : Option R :=
    bif decide (v0_2 < (↑a0.length : Int)) then
    (call (141 : Nat) s_spec_l1Limb (a0, v0_2, ())).bind fun (y1 : (Int × PUnit) × PUnit) =>
      (call (141 : Nat) s_spec_l1Limb (a1, v0_2, ())).bind fun (y2 : (Int × PUnit) × PUnit) =>
        bif
            decide
              ((v0_3.length + [IntKind.i64.wrap (y1.fst.fst + y2.fst.fst)].length) * ti2.bytes ≤
                (140737488355328 : Nat)) then
          r0 (IntKind.i64.wrap (v0_2 + (1 : Int))) (v0_3 ++ [IntKind.i64.wrap (y1.fst.fst + y2.fst.fst)])
        else none
  else
    bif decide (v0_2 < (↑a1.length : Int)) then
      (call (141 : Nat) s_spec_l1Limb (a0, v0_2, ())).bind fun (y3 : (Int × PUnit) × PUnit) =>
        (call (141 : Nat) s_spec_l1Limb (a1, v0_2, ())).bind fun (y4 : (Int × PUnit) × PUnit) =>
          bif
              decide
                ((v0_3.length + [IntKind.i64.wrap (y3.fst.fst + y4.fst.fst)].length) * ti2.bytes ≤
                  (140737488355328 : Nat)) then
            r0 (IntKind.i64.wrap (v0_2 + (1 : Int))) (v0_3 ++ [IntKind.i64.wrap (y3.fst.fst + y4.fst.fst)])
          else none
    else
      (call (142 : Nat) s_spec_l1Carry (v0_3, ())).bind fun (y5 : (List Int × PUnit) × PUnit) =>
        (call (143 : Nat) s_spec_NatOk (y5.fst.fst, ())).bind fun (y6 : (Bool × PUnit) × PUnit) =>
          bif !y6.fst.fst then some (([], false, ()), ()) else some ((y5.fst.fst, true, ()), ())
def L0 (call : Cl) (k : Nat) (a0 : (List Int)) (a1 : (List Int))  : Nat → (Int) → ((List Int)) → Option R
    | 0, _, _ => none
    | n + 1, v0_2, v0_3 => step0 call k a0 a1   (L0 call k a0 a1  n) v0_2 v0_3
def Fm (call : Cl) (k : Nat) (l0 : ((List Int)) → ((List Int)) → (Int) → ((List Int)) → Option R) (a0 : (List Int)) (a1 : (List Int)) : Option R :=
    (call (140 : Nat) s_spec_l1Both (a0, a1, ())).bind fun (y0 : (Bool × PUnit) × PUnit) =>
    bif !y0.fst.fst then some (([], false, ()), ()) else l0 a0 a1 (0 : Int) []
def F (call : Cl) (k : Nat) (a0 : (List Int)) (a1 : (List Int)) : Option R := Fm call k (fun a0_ a1_ v0_2_ v0_3_ => L0 call k a0_ a1_ k v0_2_ v0_3_) a0 a1
theorem L0_eq (call : Cl) (k : Nat) (J : Nat → St → Option R) (a0 : (List Int)) (a1 : (List Int)) : ∀ (n : Nat) (x : Y7_1), siteI E call n_spec_AddNat k s_spec_AddNat (a0, a1, ()) J 0 n (S0 a0 a1 x.1 x.2) = L0 call k a0 a1  n x.1 x.2 := by
  refine loop_eq (E := E) (call := call) (f := n_spec_AddNat) (k := k) (s := s_spec_AddNat) (l := (a0, a1, ())) (J := J) (i := 0) (X := Y7_1) (fun x => S0 a0 a1 x.1 x.2) (fun n x => L0 call k a0 a1  n x.1 x.2) (fun r x => step0 call k a0 a1   (fun v0_2 v0_3 => r (v0_2, v0_3)) x.1 x.2) ?_ ?_ ?_
  · intro x; rfl
  · intro n x; rfl
  intro J0 x
  kernel_rfl
theorem F_eq (call : Cl) (k : Nat) (a0 : (List Int)) (a1 : (List Int)) : bodyK E call n_spec_AddNat k s_spec_AddNat (a0, a1, ()) = F call k a0 a1 := by
  exact Eq.trans (b := Fm call k (fun a0 a1 v0_2_ v0_3_ => siteI E call n_spec_AddNat k s_spec_AddNat (a0, a1, ()) (fun _ _ => none) 0 k (S0 a0 a1 v0_2_ v0_3_)) a0 a1) (by kernel_rfl) (congrArg (fun l => Fm call k l a0 a1) (funext fun a0 => funext fun a1 => funext fun v0_2_ => funext fun v0_3_ => L0_eq call k (fun _ _ => none) a0 a1 k (v0_2_, v0_3_)))
end spec_AddNat
/-! #### spec_MulNat -/
namespace spec_MulNat
abbrev R := (((List Int) × (Bool × Unit)) × Unit)
def S1 (a0 : (List Int)) (a1 : (List Int)) (v0_2 : Int) (v1_3 : Int) (v1_4 : (List Int)) : St := ⟨mkS 60 [(0, .v (.slc (.int .i64)) (a0)), (1, .v (.slc (.int .i64)) (a1)), (6, .ref [6]), (7, .v (.int .i64) (v0_2)), (8, .v (.int .i64) v1_3)], [([6], .list 2 (.int .i64) v1_4)]⟩
def S0 (a0 : (List Int)) (a1 : (List Int)) (v0_2 : Int) (v0_3 : (List Int)) : St := ⟨mkS 60 [(0, .v (.slc (.int .i64)) (a0)), (1, .v (.slc (.int .i64)) (a1)), (6, .ref [6]), (7, .v (.int .i64) v0_2)], [([6], .list 2 (.int .i64) v0_3)]⟩
def step1 (call : Cl) (k : Nat) (a0 : (List Int)) (a1 : (List Int)) (v0_2 : Int) (r0 : (Int) → ((List Int)) → Option R)  (r1 : (Int) → ((List Int)) → Option R) (v1_3 : Int) (v1_4 : (List Int)) : Option R :=
    bif decide (v1_3 < (↑a1.length : Int)) then
    bif
        decide ((0 : Int) ≤ IntKind.i64.wrap (v0_2 + v1_3)) &&
          decide ((IntKind.i64.wrap (v0_2 + v1_3)).toNat < v1_4.length) then
      (lget v1_4 (IntKind.i64.wrap (v0_2 + v1_3)).toNat).bind fun (y1 : Int) =>
        bif decide ((0 : Int) ≤ v0_2) then
          (lget a0 v0_2.toNat).bind fun (y2 : Int) =>
            bif decide ((0 : Int) ≤ v1_3) then
              (lget a1 v1_3.toNat).bind fun (y3 : Int) =>
                bif
                    decide ((0 : Int) ≤ IntKind.i64.wrap (v0_2 + v1_3)) &&
                      decide ((IntKind.i64.wrap (v0_2 + v1_3)).toNat < v1_4.length) then
                  (lget v1_4 (IntKind.i64.wrap (v0_2 + v1_3)).toNat).bind fun (y4 : Int) =>
                    r1 (IntKind.i64.wrap (v1_3 + (1 : Int)))
                      (v1_4.set (IntKind.i64.wrap (v0_2 + v1_3)).toNat
                        (IntKind.i64.wrap (y1 + IntKind.i64.wrap (y2 * y3))))
                else none
            else none
        else none
    else none
  else r0 (IntKind.i64.wrap (v0_2 + (1 : Int))) v1_4
def L1 (call : Cl) (k : Nat) (a0 : (List Int)) (a1 : (List Int)) (v0_2 : Int) (r0 : (Int) → ((List Int)) → Option R) : Nat → (Int) → ((List Int)) → Option R
    | 0, _, _ => none
    | n + 1, v1_3, v1_4 => step1 call k a0 a1 v0_2 r0  (L1 call k a0 a1 v0_2 r0 n) v1_3 v1_4
def step0 (call : Cl) (k : Nat) (a0 : (List Int)) (a1 : (List Int))  (l1 : ((List Int)) → ((List Int)) → (Int) → (Int) → ((List Int)) → Option R) (r0 : (Int) → ((List Int)) → Option R) (v0_2 : Int) (v0_3 : (List Int)) : Option R :=
    bif decide (v0_2 < (↑a0.length : Int)) then l1 a0 a1 v0_2 (0 : Int) v0_3
  else
    (call (142 : Nat) s_spec_l1Carry (v0_3, ())).bind fun (y5 : (List Int × PUnit) × PUnit) =>
      (call (143 : Nat) s_spec_NatOk (y5.fst.fst, ())).bind fun (y6 : (Bool × PUnit) × PUnit) =>
        bif !y6.fst.fst then some (([], false, ()), ()) else some ((y5.fst.fst, true, ()), ())
def L0 (call : Cl) (k : Nat) (a0 : (List Int)) (a1 : (List Int))  : Nat → (Int) → ((List Int)) → Option R
    | 0, _, _ => none
    | n + 1, v0_2, v0_3 => step0 call k a0 a1  (fun a0_ a1_ v0_2_ v1_3_ v1_4_ => L1 call k a0_ a1_ v0_2_ (L0 call k a0 a1  n) k v1_3_ v1_4_) (L0 call k a0 a1  n) v0_2 v0_3
def Fm (call : Cl) (k : Nat) (l0 : ((List Int)) → ((List Int)) → (Int) → ((List Int)) → Option R) (a0 : (List Int)) (a1 : (List Int)) : Option R :=
    (call (140 : Nat) s_spec_l1Both (a0, a1, ())).bind fun (y0 : (Bool × PUnit) × PUnit) =>
    bif !y0.fst.fst then some (([], false, ()), ())
    else
      bif
          decide
                (IntKind.i64.wrap ((↑a0.length : Int) + (↑a1.length : Int)) =
                  IntKind.i64.wrap ((↑a0.length : Int) + (↑a1.length : Int))) &&
              decide ((0 : Int) ≤ IntKind.i64.wrap ((↑a0.length : Int) + (↑a1.length : Int))) &&
            decide
              (IntKind.i64.wrap ((↑a0.length : Int) + (↑a1.length : Int)) * (↑ti2.bytes : Int) ≤
                (281474976710656 : Int)) then
        l0 a0 a1 (0 : Int)
          (List.replicate (IntKind.i64.wrap ((↑a0.length : Int) + (↑a1.length : Int))).toNat (Int.ofNat (nat_lit 0)))
      else none
def F (call : Cl) (k : Nat) (a0 : (List Int)) (a1 : (List Int)) : Option R := Fm call k (fun a0_ a1_ v0_2_ v0_3_ => L0 call k a0_ a1_ k v0_2_ v0_3_) a0 a1
theorem L1_eq (call : Cl) (k : Nat) (J : Nat → St → Option R) (a0 : (List Int)) (a1 : (List Int)) (v0_2 : Int) : ∀ (n : Nat) (x : Y7_1), siteI E call n_spec_MulNat k s_spec_MulNat (a0, a1, ()) J 1 n (S1 a0 a1 v0_2 x.1 x.2) = L1 call k a0 a1 v0_2 (fun v0_2_ v0_3_ => J 0 (S0 a0 a1 v0_2_ v0_3_)) n x.1 x.2 := by
  refine loop_eq (E := E) (call := call) (f := n_spec_MulNat) (k := k) (s := s_spec_MulNat) (l := (a0, a1, ())) (J := J) (i := 1) (X := Y7_1) (fun x => S1 a0 a1 v0_2 x.1 x.2) (fun n x => L1 call k a0 a1 v0_2 (fun v0_2_ v0_3_ => J 0 (S0 a0 a1 v0_2_ v0_3_)) n x.1 x.2) (fun r x => step1 call k a0 a1 v0_2 (fun v0_2_ v0_3_ => J 0 (S0 a0 a1 v0_2_ v0_3_))  (fun v1_3 v1_4 => r (v1_3, v1_4)) x.1 x.2) ?_ ?_ ?_
  · intro x; rfl
  · intro n x; rfl
  intro J0 x
  kernel_rfl
theorem L0_eq (call : Cl) (k : Nat) (J : Nat → St → Option R) (a0 : (List Int)) (a1 : (List Int)) : ∀ (n : Nat) (x : Y7_1), siteI E call n_spec_MulNat k s_spec_MulNat (a0, a1, ()) J 0 n (S0 a0 a1 x.1 x.2) = L0 call k a0 a1  n x.1 x.2 := by
  refine loop_eq (E := E) (call := call) (f := n_spec_MulNat) (k := k) (s := s_spec_MulNat) (l := (a0, a1, ())) (J := J) (i := 0) (X := Y7_1) (fun x => S0 a0 a1 x.1 x.2) (fun n x => L0 call k a0 a1  n x.1 x.2) (fun r x => step0 call k a0 a1  (fun (a0 : (List Int)) (a1 : (List Int)) (v0_2 : Int) (v1_3_ : Int) (v1_4_ : (List Int)) => L1 call k a0 a1 v0_2 (fun v0_2_ v0_3_ => r (v0_2_, v0_3_)) k v1_3_ v1_4_) (fun v0_2 v0_3 => r (v0_2, v0_3)) x.1 x.2) ?_ ?_ ?_
  · intro x; rfl
  · intro n x; rfl
  intro J0 x
  refine Eq.trans (b := step0 call k a0 a1  (fun a0 a1 v0_2 v1_3_ v1_4_ => siteI E call n_spec_MulNat k s_spec_MulNat (a0, a1, ()) (upJ 0 J0 J) 1 k (S1 a0 a1 v0_2 v1_3_ v1_4_)) (fun v0_2 v0_3 => J0 (S0 a0 a1 v0_2 v0_3)) x.1 x.2) (by kernel_rfl) ?_
  rw [show (fun (a0 : (List Int)) (a1 : (List Int)) (v0_2 : Int) (v1_3_ : Int) (v1_4_ : (List Int)) => siteI E call n_spec_MulNat k s_spec_MulNat (a0, a1, ()) (upJ 0 J0 J) 1 k (S1 a0 a1 v0_2 v1_3_ v1_4_)) = (fun (a0 : (List Int)) (a1 : (List Int)) (v0_2 : Int) (v1_3_ : Int) (v1_4_ : (List Int)) => L1 call k a0 a1 v0_2 (fun v0_2_ v0_3_ => (upJ 0 J0 J) 0 (S0 a0 a1 v0_2_ v0_3_)) k v1_3_ v1_4_) from funext fun a0 => funext fun a1 => funext fun v0_2 => funext fun v1_3_ => funext fun v1_4_ => L1_eq call k (upJ 0 J0 J) a0 a1 v0_2 k (v1_3_, v1_4_)]
  all_goals rfl
theorem F_eq (call : Cl) (k : Nat) (a0 : (List Int)) (a1 : (List Int)) : bodyK E call n_spec_MulNat k s_spec_MulNat (a0, a1, ()) = F call k a0 a1 := by
  exact Eq.trans (b := Fm call k (fun a0 a1 v0_2_ v0_3_ => siteI E call n_spec_MulNat k s_spec_MulNat (a0, a1, ()) (fun _ _ => none) 0 k (S0 a0 a1 v0_2_ v0_3_)) a0 a1) (by kernel_rfl) (congrArg (fun l => Fm call k l a0 a1) (funext fun a0 => funext fun a1 => funext fun v0_2_ => funext fun v0_3_ => L0_eq call k (fun _ _ => none) a0 a1 k (v0_2_, v0_3_)))
end spec_MulNat
/-! #### spec_l1Limb -/
namespace spec_l1Limb
abbrev R := ((Int × Unit) × Unit)
def Fm (call : Cl) (k : Nat)  (a0 : (List Int)) (a1 : Int) : Option R :=
    bif decide (a1 < (↑a0.length : Int)) then
    bif decide ((0 : Int) ≤ a1) then (lget a0 a1.toNat).bind fun (y0 : Int) => some ((y0, ()), ()) else none
  else some (((0 : Int), ()), ())
def F (call : Cl) (k : Nat) (a0 : (List Int)) (a1 : Int) : Option R := Fm call k  a0 a1
theorem F_eq (call : Cl) (k : Nat) (a0 : (List Int)) (a1 : Int) : bodyK E call n_spec_l1Limb k s_spec_l1Limb (a0, a1, ()) = F call k a0 a1 := by
  kernel_rfl
end spec_l1Limb
/-! #### spec_l1Carry -/
namespace spec_l1Carry
abbrev R := (((List Int) × Unit) × Unit)
def S0 (a0 : (List Int)) (v0_1 : Int) (v0_2 : Int) (v0_3 : (List Int)) : St := ⟨mkS 32 [(0, .v (.slc (.int .i64)) (a0)), (3, .ref [3]), (4, .v (.int .i64) v0_1), (5, .v (.int .i64) v0_2)], [([3], .list 2 (.int .i64) v0_3)]⟩
def step0 (call : Cl) (k : Nat) (a0 : (List Int))   (r0 : (Int) → (Int) → ((List Int)) → Option R) (v0_1 : Int) (v0_2 : Int) (v0_3 : (List Int)) : Option R :=
    bif decide (v0_2 < (↑a0.length : Int)) then
    (call (141 : Nat) s_spec_l1Limb (a0, v0_2, ())).bind fun (y0 : (Int × PUnit) × PUnit) =>
      bif
          decide
            ((v0_3.length + [(IntKind.i64.wrap (y0.fst.fst + v0_1)).tmod (10000 : Int)].length) * ti2.bytes ≤
              (140737488355328 : Nat)) then
        r0 (IntKind.i64.wrap ((IntKind.i64.wrap (y0.fst.fst + v0_1)).tdiv (10000 : Int)))
          (IntKind.i64.wrap (v0_2 + (1 : Int))) (v0_3 ++ [(IntKind.i64.wrap (y0.fst.fst + v0_1)).tmod (10000 : Int)])
      else none
  else
    bif decide (v0_1 > (0 : Int)) then
      (call (141 : Nat) s_spec_l1Limb (a0, v0_2, ())).bind fun (y1 : (Int × PUnit) × PUnit) =>
        bif
            decide
              ((v0_3.length + [(IntKind.i64.wrap (y1.fst.fst + v0_1)).tmod (10000 : Int)].length) * ti2.bytes ≤
                (140737488355328 : Nat)) then
          r0 (IntKind.i64.wrap ((IntKind.i64.wrap (y1.fst.fst + v0_1)).tdiv (10000 : Int)))
            (IntKind.i64.wrap (v0_2 + (1 : Int))) (v0_3 ++ [(IntKind.i64.wrap (y1.fst.fst + v0_1)).tmod (10000 : Int)])
        else none
    else
      (call (162 : Nat) s_spec_l1Trim (v0_3, ())).bind fun (y2 : (List Int × PUnit) × PUnit) =>
        some ((y2.fst.fst, ()), ())
def L0 (call : Cl) (k : Nat) (a0 : (List Int))  : Nat → (Int) → (Int) → ((List Int)) → Option R
    | 0, _, _, _ => none
    | n + 1, v0_1, v0_2, v0_3 => step0 call k a0   (L0 call k a0  n) v0_1 v0_2 v0_3
def Fm (call : Cl) (k : Nat) (l0 : ((List Int)) → (Int) → (Int) → ((List Int)) → Option R) (a0 : (List Int)) : Option R :=
    l0 a0 (0 : Int) (0 : Int) []
def F (call : Cl) (k : Nat) (a0 : (List Int)) : Option R := Fm call k (fun a0_ v0_1_ v0_2_ v0_3_ => L0 call k a0_ k v0_1_ v0_2_ v0_3_) a0
theorem L0_eq (call : Cl) (k : Nat) (J : Nat → St → Option R) (a0 : (List Int)) : ∀ (n : Nat) (x : Y7_0), siteI E call n_spec_l1Carry k s_spec_l1Carry (a0, ()) J 0 n (S0 a0 x.1 x.2.1 x.2.2) = L0 call k a0  n x.1 x.2.1 x.2.2 := by
  refine loop_eq (E := E) (call := call) (f := n_spec_l1Carry) (k := k) (s := s_spec_l1Carry) (l := (a0, ())) (J := J) (i := 0) (X := Y7_0) (fun x => S0 a0 x.1 x.2.1 x.2.2) (fun n x => L0 call k a0  n x.1 x.2.1 x.2.2) (fun r x => step0 call k a0   (fun v0_1 v0_2 v0_3 => r (v0_1, v0_2, v0_3)) x.1 x.2.1 x.2.2) ?_ ?_ ?_
  · intro x; rfl
  · intro n x; rfl
  intro J0 x
  kernel_rfl
theorem F_eq (call : Cl) (k : Nat) (a0 : (List Int)) : bodyK E call n_spec_l1Carry k s_spec_l1Carry (a0, ()) = F call k a0 := by
  exact Eq.trans (b := Fm call k (fun a0 v0_1_ v0_2_ v0_3_ => siteI E call n_spec_l1Carry k s_spec_l1Carry (a0, ()) (fun _ _ => none) 0 k (S0 a0 v0_1_ v0_2_ v0_3_)) a0) (by kernel_rfl) (congrArg (fun l => Fm call k l a0) (funext fun a0 => funext fun v0_1_ => funext fun v0_2_ => funext fun v0_3_ => L0_eq call k (fun _ _ => none) a0 k (v0_1_, v0_2_, v0_3_)))
end spec_l1Carry
/-! #### spec_l1Trim -/
namespace spec_l1Trim
abbrev R := (((List Int) × Unit) × Unit)
def S0 (a0 : (List Int)) (v0_1 : Int) : St := ⟨mkS 23 [(0, .v (.slc (.int .i64)) (a0)), (3, .v (.int .i64) v0_1)], []⟩
def step0 (call : Cl) (k : Nat) (a0 : (List Int))   (r0 : (Int) → Option R) (v0_1 : Int) : Option R :=
    bif decide (v0_1 > (0 : Int)) then
    bif decide ((0 : Int) ≤ IntKind.i64.wrap (v0_1 - (1 : Int))) then
      (lget a0 (IntKind.i64.wrap (v0_1 - (1 : Int))).toNat).bind fun (y0 : Int) =>
        bif y0 == (0 : Int) then r0 (IntKind.i64.wrap (v0_1 - (1 : Int)))
        else
          bif decide ((0 : Int) ≤ v0_1) then
            bif decide ((0 : Nat) ≤ v0_1.toNat) && decide (v0_1.toNat ≤ a0.length) then
              bif
                  decide
                    (((0 : Nat) + (List.take (v0_1.toNat - (0 : Nat)) (List.drop (0 : Nat) a0)).length) * ti2.bytes ≤
                      (140737488355328 : Nat)) then
                some (([] ++ List.take (v0_1.toNat - (0 : Nat)) (List.drop (0 : Nat) a0), ()), ())
              else none
            else none
          else none
    else none
  else
    bif decide ((0 : Int) ≤ v0_1) then
      bif decide ((0 : Nat) ≤ v0_1.toNat) && decide (v0_1.toNat ≤ a0.length) then
        bif
            decide
              (((0 : Nat) + (List.take (v0_1.toNat - (0 : Nat)) (List.drop (0 : Nat) a0)).length) * ti2.bytes ≤
                (140737488355328 : Nat)) then
          some (([] ++ List.take (v0_1.toNat - (0 : Nat)) (List.drop (0 : Nat) a0), ()), ())
        else none
      else none
    else none
def L0 (call : Cl) (k : Nat) (a0 : (List Int))  : Nat → (Int) → Option R
    | 0, _ => none
    | n + 1, v0_1 => step0 call k a0   (L0 call k a0  n) v0_1
def Fm (call : Cl) (k : Nat) (l0 : ((List Int)) → (Int) → Option R) (a0 : (List Int)) : Option R :=
    l0 a0 (↑a0.length : Int)
def F (call : Cl) (k : Nat) (a0 : (List Int)) : Option R := Fm call k (fun a0_ v0_1_ => L0 call k a0_ k v0_1_) a0
theorem L0_eq (call : Cl) (k : Nat) (J : Nat → St → Option R) (a0 : (List Int)) : ∀ (n : Nat) (x : (Int)), siteI E call n_spec_l1Trim k s_spec_l1Trim (a0, ()) J 0 n (S0 a0 x) = L0 call k a0  n x := by
  refine loop_eq (E := E) (call := call) (f := n_spec_l1Trim) (k := k) (s := s_spec_l1Trim) (l := (a0, ())) (J := J) (i := 0) (X := (Int)) (fun x => S0 a0 x) (fun n x => L0 call k a0  n x) (fun r x => step0 call k a0   (fun v0_1 => r v0_1) x) ?_ ?_ ?_
  · intro x; rfl
  · intro n x; rfl
  intro J0 x
  kernel_rfl
theorem F_eq (call : Cl) (k : Nat) (a0 : (List Int)) : bodyK E call n_spec_l1Trim k s_spec_l1Trim (a0, ()) = F call k a0 := by
  exact Eq.trans (b := Fm call k (fun a0 v0_1_ => siteI E call n_spec_l1Trim k s_spec_l1Trim (a0, ()) (fun _ _ => none) 0 k (S0 a0 v0_1_)) a0) (by kernel_rfl) (congrArg (fun l => Fm call k l a0) (funext fun a0 => funext fun v0_1_ => L0_eq call k (fun _ _ => none) a0 k v0_1_))
end spec_l1Trim
/-! #### spec_l1Both -/
namespace spec_l1Both
abbrev R := ((Bool × Unit) × Unit)
def Fm (call : Cl) (k : Nat)  (a0 : (List Int)) (a1 : (List Int)) : Option R :=
    (call (143 : Nat) s_spec_NatOk (a0, ())).bind fun (y0 : (Bool × PUnit) × PUnit) =>
    bif y0.fst.fst then
      (call (143 : Nat) s_spec_NatOk (a1, ())).bind fun (y1 : (Bool × PUnit) × PUnit) => some ((y1.fst.fst, ()), ())
    else some ((false, ()), ())
def F (call : Cl) (k : Nat) (a0 : (List Int)) (a1 : (List Int)) : Option R := Fm call k  a0 a1
theorem F_eq (call : Cl) (k : Nat) (a0 : (List Int)) (a1 : (List Int)) : bodyK E call n_spec_l1Both k s_spec_l1Both (a0, a1, ()) = F call k a0 a1 := by
  kernel_rfl
end spec_l1Both
/-! #### spec_NatOk -/
namespace spec_NatOk
abbrev R := ((Bool × Unit) × Unit)
def S0 (a0 : (List Int)) (v0_1 : Int) : St := ⟨mkS 33 [(0, .v (.slc (.int .i64)) (a0)), (3, .v (.int .i64) v0_1)], []⟩
def step0 (call : Cl) (k : Nat) (a0 : (List Int))   (r0 : (Int) → Option R) (v0_1 : Int) : Option R :=
    bif decide (v0_1 < (↑a0.length : Int)) then
    bif decide ((0 : Int) ≤ v0_1) then
      (lget a0 v0_1.toNat).bind fun (y0 : Int) =>
        (call (88 : Nat) s_spec_l1In (y0, (0 : Int), (9999 : Int), ())).bind fun (y1 : (Bool × PUnit) × PUnit) =>
          bif !y1.fst.fst then some ((false, ()), ()) else r0 (IntKind.i64.wrap (v0_1 + (1 : Int)))
    else none
  else
    bif decide ((↑a0.length : Int) ≤ (100 : Int)) then
      bif (↑a0.length : Int) == (0 : Int) then some ((true, ()), ())
      else
        bif decide ((0 : Int) ≤ IntKind.i64.wrap ((↑a0.length : Int) - (1 : Int))) then
          (lget a0 (IntKind.i64.wrap ((↑a0.length : Int) - (1 : Int))).toNat).bind fun (y2 : Int) =>
            some ((y2 != (0 : Int), ()), ())
        else none
    else some ((false, ()), ())
def L0 (call : Cl) (k : Nat) (a0 : (List Int))  : Nat → (Int) → Option R
    | 0, _ => none
    | n + 1, v0_1 => step0 call k a0   (L0 call k a0  n) v0_1
def Fm (call : Cl) (k : Nat) (l0 : ((List Int)) → (Int) → Option R) (a0 : (List Int)) : Option R :=
    l0 a0 (0 : Int)
def F (call : Cl) (k : Nat) (a0 : (List Int)) : Option R := Fm call k (fun a0_ v0_1_ => L0 call k a0_ k v0_1_) a0
theorem L0_eq (call : Cl) (k : Nat) (J : Nat → St → Option R) (a0 : (List Int)) : ∀ (n : Nat) (x : (Int)), siteI E call n_spec_NatOk k s_spec_NatOk (a0, ()) J 0 n (S0 a0 x) = L0 call k a0  n x := by
  refine loop_eq (E := E) (call := call) (f := n_spec_NatOk) (k := k) (s := s_spec_NatOk) (l := (a0, ())) (J := J) (i := 0) (X := (Int)) (fun x => S0 a0 x) (fun n x => L0 call k a0  n x) (fun r x => step0 call k a0   (fun v0_1 => r v0_1) x) ?_ ?_ ?_
  · intro x; rfl
  · intro n x; rfl
  intro J0 x
  kernel_rfl
theorem F_eq (call : Cl) (k : Nat) (a0 : (List Int)) : bodyK E call n_spec_NatOk k s_spec_NatOk (a0, ()) = F call k a0 := by
  exact Eq.trans (b := Fm call k (fun a0 v0_1_ => siteI E call n_spec_NatOk k s_spec_NatOk (a0, ()) (fun _ _ => none) 0 k (S0 a0 v0_1_)) a0) (by kernel_rfl) (congrArg (fun l => Fm call k l a0) (funext fun a0 => funext fun v0_1_ => L0_eq call k (fun _ _ => none) a0 k v0_1_))
end spec_NatOk
/-! #### spec_CountCnf -/
namespace spec_CountCnf
abbrev R := (((List Int) × Unit) × Unit)
def Fm (call : Cl) (k : Nat)  (a0 : (Int × ((List (List Int)) × Unit))) : Option R :=
    (call (33 : Nat) s_spec_CnfOk (a0, ())).bind fun (y0 : (Bool × PUnit) × PUnit) =>
    bif !y0.fst.fst then some (([], ()), ())
    else
      (call (96 : Nat) s_spec_l14Used (a0, ())).bind fun (y1 : (List Int × PUnit) × PUnit) =>
        (call (133 : Nat) s_spec_PowerNat (IntKind.i64.wrap (a0.fst - (↑(List.length y1.fst.fst) : Int)), ())).bind
          fun (y2 : (List Int × Bool × PUnit) × PUnit) =>
          (call (126 : Nat) s_spec_l14Models (a0, ())).bind fun (y3 : (List (List Bool) × PUnit) × PUnit) =>
            (call (135 : Nat) s_spec_NatOf ((↑(List.length y3.fst.fst) : Int), ())).bind
              fun (y4 : (List Int × PUnit) × PUnit) =>
              (call (134 : Nat) s_spec_MulNat (y4.fst.fst, y2.fst.fst, ())).bind
                fun (y5 : (List Int × Bool × PUnit) × PUnit) => some ((y5.fst.fst, ()), ())
def F (call : Cl) (k : Nat) (a0 : (Int × ((List (List Int)) × Unit))) : Option R := Fm call k  a0
theorem F_eq (call : Cl) (k : Nat) (a0 : (Int × ((List (List Int)) × Unit))) : bodyK E call n_spec_CountCnf k s_spec_CountCnf (a0, ()) = F call k a0 := by
  kernel_rfl
end spec_CountCnf
end Go.Proofs.Ytcmgjdmhemfecaa.Pf
