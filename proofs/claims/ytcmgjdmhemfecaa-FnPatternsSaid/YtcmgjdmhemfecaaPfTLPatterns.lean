/- Printed texts: what the reading of these functions is. No condition. -/
import Derived.Test.YtcmgjdmhemfecaaPvEnv
import Derived.KernelRfl
set_option linter.unusedVariables false
namespace Go.Proofs.Ytcmgjdmhemfecaa.Pf
open Go Go.Pv
/-! #### laws_FnPatterns -/
namespace laws_FnPatterns
abbrev R := ((Bool × Unit) × Unit)
def S0 (y1 : (((Int × ((List (List Int)) × Unit)) × ((List Int) × Unit)) × Unit)) (y2 : (((List Int) × Unit) × Unit)) (v0_0 : Int) (v0_1 : (List Int)) : St := ⟨mkS 70 [(3, .p [3] [] 0), (5, .ref [5]), (6, .ref [6]), (7, .v (.int .i64) v0_0)], [([6], .list 2 (.int .i64) v0_1), ([5], .list 2 (.int .i64) (y2.fst.fst)), ([3], .box (.v (.pair (.int .i64) (.pair (.slc (.slc (.int .i64))) .unit)) ((y1.fst.fst.fst), ((y1.fst.fst.snd.fst), ()))))]⟩
def step0 (call : Cl) (k : Nat) (y1 : (((Int × ((List (List Int)) × Unit)) × ((List Int) × Unit)) × Unit)) (y2 : (((List Int) × Unit) × Unit))   (r0 : (Int) → ((List Int)) → Option R) (v0_0 : Int) (v0_1 : (List Int)) : Option R :=
    bif decide (v0_0 ≤ y1.fst.fst.fst) then
    bif decide ((v0_1.length + [v0_0].length) * ti2.bytes ≤ (140737488355328 : Nat)) then
      r0 (IntKind.i64.wrap (v0_0 + (1 : Int))) (v0_1 ++ [v0_0])
    else none
  else
    (call (82 : Nat) s_impl_PatternsOf ((y1.fst.fst.fst, y1.fst.fst.snd.fst, ()), v0_1, ())).bind
      fun (y7 : (List Int × PUnit) × PUnit) =>
      (call (82 : Nat) s_impl_PatternsOf ((y1.fst.fst.fst, y1.fst.fst.snd.fst, ()), [], ())).bind
        fun (y8 : (List Int × PUnit) × PUnit) =>
        (call (78 : Nat) s_spec_CountCnf ((y1.fst.fst.fst, y1.fst.fst.snd.fst, ()), ())).bind
          fun (y9 : (List Int × PUnit) × PUnit) =>
          (call (84 : Nat) s_laws_likeInts (y7.fst.fst, y9.fst.fst, ())).bind fun (y10 : (Bool × PUnit) × PUnit) =>
            bif y10.fst.fst then
              bif
                  decide ((↑(List.length y7.fst.fst) : Int) > (0 : Int)) ==
                    ((↑(List.length y8.fst.fst) : Int) == (1 : Int)) then
                (call (87 : Nat) s_spec_CmpNat (y2.fst.fst, y7.fst.fst, ())).bind fun (y11 : (Int × PUnit) × PUnit) =>
                  some ((decide (y11.fst.fst ≤ (0 : Int)), ()), ())
              else some ((false, ()), ())
            else some ((false, ()), ())
def L0 (call : Cl) (k : Nat) (y1 : (((Int × ((List (List Int)) × Unit)) × ((List Int) × Unit)) × Unit)) (y2 : (((List Int) × Unit) × Unit))  : Nat → (Int) → ((List Int)) → Option R
    | 0, _, _ => none
    | n + 1, v0_0, v0_1 => step0 call k y1 y2   (L0 call k y1 y2  n) v0_0 v0_1
def Fm (call : Cl) (k : Nat) (l0 : ((((Int × ((List (List Int)) × Unit)) × ((List Int) × Unit)) × Unit)) → ((((List Int) × Unit) × Unit)) → (Int) → ((List Int)) → Option R) (a0 : (List Int)) : Option R :=
    (call (53 : Nat) s_laws_big (a0, ())).bind fun (y0 : (Bool × PUnit) × PUnit) =>
    bif y0.fst.fst then some ((true, ()), ())
    else
      (call (86 : Nat) s_spec_DrawPatternsOf (a0, ())).bind
        fun (y1 : ((Int × List (List Int) × PUnit) × List Int × PUnit) × PUnit) =>
        (call (82 : Nat) s_impl_PatternsOf (y1.fst.fst, y1.fst.snd.fst, ())).bind fun (y2 : (List Int × PUnit) × PUnit) =>
          (call (80 : Nat) s_spec_PatternsOf (y1.fst.fst, y1.fst.snd.fst, ())).bind
            fun (y3 : (List Int × PUnit) × PUnit) =>
            (call (84 : Nat) s_laws_likeInts (y2.fst.fst, y3.fst.fst, ())).bind fun (y4 : (Bool × PUnit) × PUnit) =>
              bif !y4.fst.fst then some ((false, ()), ())
              else
                (call (33 : Nat) s_spec_CnfOk (y1.fst.fst, ())).bind fun (y5 : (Bool × PUnit) × PUnit) =>
                  bif !y5.fst.fst then
                    (call (82 : Nat) s_impl_PatternsOf (y1.fst.fst, [], ())).bind fun (y6 : (List Int × PUnit) × PUnit) =>
                      some (((↑(List.length y6.fst.fst) : Int) == (0 : Int), ()), ())
                  else l0 y1 y2 (1 : Int) []
def F (call : Cl) (k : Nat) (a0 : (List Int)) : Option R := Fm call k (fun y1_ y2_ v0_0_ v0_1_ => L0 call k y1_ y2_ k v0_0_ v0_1_) a0
theorem L0_eq (call : Cl) (k : Nat) (J : Nat → St → Option R) (a0 : (List Int)) (y1 : (((Int × ((List (List Int)) × Unit)) × ((List Int) × Unit)) × Unit)) (y2 : (((List Int) × Unit) × Unit)) : ∀ (n : Nat) (x : ((Int) × ((List Int)))), siteI E call n_laws_FnPatterns k s_laws_FnPatterns (a0, ()) J 0 n (S0 y1 y2 x.1 x.2) = L0 call k y1 y2  n x.1 x.2 := by
  refine loop_eq (E := E) (call := call) (f := n_laws_FnPatterns) (k := k) (s := s_laws_FnPatterns) (l := (a0, ())) (J := J) (i := 0) (X := ((Int) × ((List Int)))) (fun x => S0 y1 y2 x.1 x.2) (fun n x => L0 call k y1 y2  n x.1 x.2) (fun r x => step0 call k y1 y2   (fun v0_0 v0_1 => r (v0_0, v0_1)) x.1 x.2) ?_ ?_ ?_
  · intro x; rfl
  · intro n x; rfl
  intro J0 x
  kernel_rfl
theorem F_eq (call : Cl) (k : Nat) (a0 : (List Int)) : bodyK E call n_laws_FnPatterns k s_laws_FnPatterns (a0, ()) = F call k a0 := by
  exact Eq.trans (b := Fm call k (fun y1 y2 v0_0_ v0_1_ => siteI E call n_laws_FnPatterns k s_laws_FnPatterns (a0, ()) (fun _ _ => none) 0 k (S0 y1 y2 v0_0_ v0_1_)) a0) (by kernel_rfl) (congrArg (fun l => Fm call k l a0) (funext fun y1 => funext fun y2 => funext fun v0_0_ => funext fun v0_1_ => L0_eq call k (fun _ _ => none) a0 y1 y2 k (v0_0_, v0_1_)))
end laws_FnPatterns
end Go.Proofs.Ytcmgjdmhemfecaa.Pf
