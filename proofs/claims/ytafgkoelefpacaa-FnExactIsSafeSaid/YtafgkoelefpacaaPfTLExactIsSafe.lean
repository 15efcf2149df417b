/- Printed texts: what the reading of these functions is. No condition. -/
import Derived.Test.YtafgkoelefpacaaPvEnv
import Derived.KernelRfl
set_option linter.unusedVariables false
set_option maxHeartbeats 2000000
namespace Go.Proofs.Ytafgkoelefpacaa.Pf
open Go Go.Pv
abbrev YLExactIsSafe_0 : Type := (Int × ((List (Int × (Int × Unit))) × ((List (Int × (Int × Unit))) × (Int × ((List Int) × ((List (Int × (Int × ((List (Int × (Int × Unit))) × ((List (Int × (Int × Unit))) × Unit))))) × Unit))))))
abbrev YLExactIsSafe_1 : Type := (((Int × List (Int × Int × Unit) × List (Int × Int × Unit) × Int × List Int × List (Int × Int × List (Int × Int × Unit) × List (Int × Int × Unit) × Unit) × Unit) × Unit) × Unit)
/-! #### laws_FnExactIsSafe -/
namespace laws_FnExactIsSafe
abbrev R := ((Bool × Unit) × Unit)
def Fm (call : Cl) (k : Nat)  (a0 : YLExactIsSafe_0) : Option R := (call 5 s_laws_szProg (a0, 1048576, ())).bind fun (y0 : (Int × Unit) × Unit) => bif decide (y0.1.1 < 0) then some ((true, ()), ()) else (call 7 s_laws_toProg (a0, ())).bind fun (y1 : YLExactIsSafe_1) => (call 6 s_spec_IsSafe ((y1.1.1.1, y1.1.1.2.1, y1.1.1.2.2.1, y1.1.1.2.2.2.1, y1.1.1.2.2.2.2.1, y1.1.1.2.2.2.2.2.1, y1.1.1.2.2.2.2.2.2), ())).bind fun (y2 : (Bool × Unit) × Unit) => (call 7 s_laws_toProg (a0, ())).bind fun (y3 : YLExactIsSafe_1) => (call 8 s_impl_IsSafe ((y3.1.1.1, y3.1.1.2.1, y3.1.1.2.2.1, y3.1.1.2.2.2.1, y3.1.1.2.2.2.2.1, y3.1.1.2.2.2.2.2.1, y3.1.1.2.2.2.2.2.2), ())).bind fun (y4 : (Bool × Unit) × Unit) => bif !y4.1.1 == y2.1.1 then some ((false, ()), ()) else (call 7 s_laws_toProg (a0, ())).bind fun (y5 : YLExactIsSafe_1) => (call 9 s_laws_eqProg ((y3.1.1.1, y3.1.1.2.1, y3.1.1.2.2.1, y3.1.1.2.2.2.1, y3.1.1.2.2.2.2.1, y3.1.1.2.2.2.2.2.1, y3.1.1.2.2.2.2.2.2), (y5.1.1.1, y5.1.1.2.1, y5.1.1.2.2.1, y5.1.1.2.2.2.1, y5.1.1.2.2.2.2.1, y5.1.1.2.2.2.2.2.1, y5.1.1.2.2.2.2.2.2), ())).bind fun (y6 : (Bool × Unit) × Unit) => bif !y6.1.1 then some ((false, ()), ()) else some ((true, ()), ())
def F (call : Cl) (k : Nat) (a0 : YLExactIsSafe_0) : Option R := Fm call k  a0
theorem F_eq (call : Cl) (k : Nat) (a0 : YLExactIsSafe_0) : bodyK E call n_laws_FnExactIsSafe k s_laws_FnExactIsSafe (a0, ()) = F call k a0 := by
  kernel_rfl
end laws_FnExactIsSafe
end Go.Proofs.Ytafgkoelefpacaa.Pf
