/- Printed texts: what the reading of these functions is. No condition. -/
import Derived.Test.YtcmgjdmhemfecaaPvEnv
import Derived.KernelRfl
set_option linter.unusedVariables false
namespace Go.Proofs.Ytcmgjdmhemfecaa.Pf
open Go Go.Pv
abbrev Y2_0 := (((List (Int × (Int × (Int × Unit)))) × (Int × Unit)) × Unit)
abbrev Y2_1 := (Int × (Int × ((List (Int × (Int × (Int × Unit)))) × Unit)))
abbrev Y2_2 := (List (Int × (Int × (Int × Unit))))
abbrev Y2_3 := (((List Bool) × Unit) × Unit)
abbrev Y2_4 := (Int × (Int × (Int × Unit)))
abbrev Y2_5 := ((Int) × ((List Bool)))
abbrev Y2_6 := ((Int) × (Int))
/-! #### laws_szKnotS -/
namespace laws_szKnotS
abbrev R := ((Int × Unit) × Unit)
def Fm (call : Cl) (k : Nat)  (a0 : (List (Int × (Int × (Int × Unit))))) (a1 : Int) : Option R :=
    bif decide (IntKind.i64.wrap (a1 - (↑a0.length : Int)) < (0 : Int)) then some (((-1 : Int), ()), ())
  else some ((IntKind.i64.wrap (a1 - (↑a0.length : Int)), ()), ())
def F (call : Cl) (k : Nat) (a0 : (List (Int × (Int × (Int × Unit))))) (a1 : Int) : Option R := Fm call k  a0 a1
theorem F_eq (call : Cl) (k : Nat) (a0 : Y2_2) (a1 : Int) : bodyK E call n_laws_szKnotS k s_laws_szKnotS (a0, a1, ()) = F call k a0 a1 := by
  kernel_rfl
end laws_szKnotS
/-! #### laws_szDia -/
namespace laws_szDia
abbrev R := ((Int × Unit) × Unit)
def Fm (call : Cl) (k : Nat)  (a0 : (Int × (Int × ((List (Int × (Int × (Int × Unit)))) × Unit)))) (a1 : Int) : Option R :=
    (call (102 : Nat) s_laws_szKnotS (a0.snd.snd.fst, a1, ())).bind fun (y0 : (Int × PUnit) × PUnit) =>
    bif decide (y0.fst.fst < (0 : Int)) then some (((-1 : Int), ()), ()) else some ((y0.fst.fst, ()), ())
def F (call : Cl) (k : Nat) (a0 : (Int × (Int × ((List (Int × (Int × (Int × Unit)))) × Unit)))) (a1 : Int) : Option R := Fm call k  a0 a1
theorem F_eq (call : Cl) (k : Nat) (a0 : Y2_1) (a1 : Int) : bodyK E call n_laws_szDia k s_laws_szDia (a0, a1, ()) = F call k a0 a1 := by
  kernel_rfl
end laws_szDia
/-! #### laws_toKnot -/
namespace laws_toKnot
abbrev R := (((Int × (Int × (Int × Unit))) × Unit) × Unit)
def Fm (call : Cl) (k : Nat)  (a0 : (Int × (Int × (Int × Unit)))) : Option R :=
    some (((a0.fst, a0.snd.fst, a0.snd.snd.fst, ()), ()), ())
def F (call : Cl) (k : Nat) (a0 : (Int × (Int × (Int × Unit)))) : Option R := Fm call k  a0
theorem F_eq (call : Cl) (k : Nat) (a0 : Y2_4) : bodyK E call n_laws_toKnot k s_laws_toKnot (a0, ()) = F call k a0 := by
  kernel_rfl
end laws_toKnot
/-! #### laws_toKnotS -/
namespace laws_toKnotS
abbrev R := (((List (Int × (Int × (Int × Unit)))) × Unit) × Unit)
def S0 (a0 : Y2_2) (v0_1 : Int) (v0_2 : Y2_2) : St := ⟨mkS 23 [(0, .v (.slc (.pair (.int .i64) (.pair (.int .i64) (.pair (.int .i64) .unit)))) (a0)), (3, .ref [3]), (4, .v (.int .i64) v0_1)], [([3], .list 92 (.pair (.int .i64) (.pair (.int .i64) (.pair (.int .i64) .unit))) v0_2)]⟩
def step0 (call : Cl) (k : Nat) (a0 : (List (Int × (Int × (Int × Unit)))))   (r0 : (Int) → ((List (Int × (Int × (Int × Unit))))) → Option R) (v0_1 : Int) (v0_2 : (List (Int × (Int × (Int × Unit))))) : Option R :=
    bif decide (v0_1 < (↑a0.length : Int)) then
    bif decide ((0 : Int) ≤ v0_1) then
      (lget a0 v0_1.toNat).bind fun (y0 : Int × Int × Int × PUnit) =>
        (call (152 : Nat) s_laws_toKnot (y0, ())).bind fun (y1 : ((Int × Int × Int × PUnit) × PUnit) × PUnit) =>
          bif decide ((0 : Int) ≤ v0_1) && decide (v0_1.toNat < v0_2.length) then
            (lget v0_2 v0_1.toNat).bind fun (y2 : Int × Int × Int × PUnit) =>
              r0 (IntKind.i64.wrap (v0_1 + (1 : Int)))
                (v0_2.set v0_1.toNat (y1.fst.fst.fst, y1.fst.fst.snd.fst, y1.fst.fst.snd.snd.fst, y1.fst.fst.snd.snd.snd))
          else none
    else none
  else some ((v0_2, ()), ())
def L0 (call : Cl) (k : Nat) (a0 : (List (Int × (Int × (Int × Unit)))))  : Nat → (Int) → ((List (Int × (Int × (Int × Unit))))) → Option R
    | 0, _, _ => none
    | n + 1, v0_1, v0_2 => step0 call k a0   (L0 call k a0  n) v0_1 v0_2
def Fm (call : Cl) (k : Nat) (l0 : ((List (Int × (Int × (Int × Unit))))) → (Int) → ((List (Int × (Int × (Int × Unit))))) → Option R) (a0 : (List (Int × (Int × (Int × Unit))))) : Option R :=
    bif
      decide ((↑a0.length : Int) = (↑a0.length : Int)) && decide ((0 : Int) ≤ (↑a0.length : Int)) &&
        decide ((↑a0.length : Int) * (↑ti92.bytes : Int) ≤ (281474976710656 : Int)) then
    l0 a0 (0 : Int) (List.replicate (↑a0.length : Int).toNat ((0 : Int), (0 : Int), (0 : Int), ()))
  else none
def F (call : Cl) (k : Nat) (a0 : (List (Int × (Int × (Int × Unit))))) : Option R := Fm call k (fun a0_ v0_1_ v0_2_ => L0 call k a0_ k v0_1_ v0_2_) a0
theorem L0_eq (call : Cl) (k : Nat) (J : Nat → St → Option R) (a0 : Y2_2) : ∀ (n : Nat) (x : ((Int) × (Y2_2))), siteI E call n_laws_toKnotS k s_laws_toKnotS (a0, ()) J 0 n (S0 a0 x.1 x.2) = L0 call k a0  n x.1 x.2 := by
  refine loop_eq (E := E) (call := call) (f := n_laws_toKnotS) (k := k) (s := s_laws_toKnotS) (l := (a0, ())) (J := J) (i := 0) (X := ((Int) × (Y2_2))) (fun x => S0 a0 x.1 x.2) (fun n x => L0 call k a0  n x.1 x.2) (fun r x => step0 call k a0   (fun v0_1 v0_2 => r (v0_1, v0_2)) x.1 x.2) ?_ ?_ ?_
  · intro x; rfl
  · intro n x; rfl
  intro J0 x
  kernel_rfl
theorem F_eq (call : Cl) (k : Nat) (a0 : Y2_2) : bodyK E call n_laws_toKnotS k s_laws_toKnotS (a0, ()) = F call k a0 := by
  exact Eq.trans (b := Fm call k (fun a0 v0_1_ v0_2_ => siteI E call n_laws_toKnotS k s_laws_toKnotS (a0, ()) (fun _ _ => none) 0 k (S0 a0 v0_1_ v0_2_)) a0) (by kernel_rfl) (congrArg (fun l => Fm call k l a0) (funext fun a0 => funext fun v0_1_ => funext fun v0_2_ => L0_eq call k (fun _ _ => none) a0 k (v0_1_, v0_2_)))
end laws_toKnotS
/-! #### laws_toDia -/
namespace laws_toDia
abbrev R := (((Int × (Int × ((List (Int × (Int × (Int × Unit)))) × Unit))) × Unit) × Unit)
def Fm (call : Cl) (k : Nat)  (a0 : (Int × (Int × ((List (Int × (Int × (Int × Unit)))) × Unit)))) : Option R :=
    (call (107 : Nat) s_laws_toKnotS (a0.snd.snd.fst, ())).bind
    fun (y0 : (List (Int × Int × Int × PUnit) × PUnit) × PUnit) => some (((a0.fst, a0.snd.fst, y0.fst.fst, ()), ()), ())
def F (call : Cl) (k : Nat) (a0 : (Int × (Int × ((List (Int × (Int × (Int × Unit)))) × Unit)))) : Option R := Fm call k  a0
theorem F_eq (call : Cl) (k : Nat) (a0 : Y2_1) : bodyK E call n_laws_toDia k s_laws_toDia (a0, ()) = F call k a0 := by
  kernel_rfl
end laws_toDia
/-! #### laws_eqKnot -/
namespace laws_eqKnot
abbrev R := ((Bool × Unit) × Unit)
def Fm (call : Cl) (k : Nat)  (a0 : (Int × (Int × (Int × Unit)))) (a1 : (Int × (Int × (Int × Unit)))) : Option R :=
    bif a0.fst != a1.fst then some ((false, ()), ())
  else
    bif a0.snd.fst != a1.snd.fst then some ((false, ()), ())
    else bif a0.snd.snd.fst != a1.snd.snd.fst then some ((false, ()), ()) else some ((true, ()), ())
def F (call : Cl) (k : Nat) (a0 : (Int × (Int × (Int × Unit)))) (a1 : (Int × (Int × (Int × Unit)))) : Option R := Fm call k  a0 a1
theorem F_eq (call : Cl) (k : Nat) (a0 : Y2_4) (a1 : Y2_4) : bodyK E call n_laws_eqKnot k s_laws_eqKnot (a0, a1, ()) = F call k a0 a1 := by
  kernel_rfl
end laws_eqKnot
/-! #### laws_eqKnotS -/
namespace laws_eqKnotS
abbrev R := ((Bool × Unit) × Unit)
def S0 (a0 : Y2_2) (a1 : Y2_2) (v0_2 : Int) : St := ⟨mkS 27 [(0, .v (.slc (.pair (.int .i64) (.pair (.int .i64) (.pair (.int .i64) .unit)))) (a0)), (1, .v (.slc (.pair (.int .i64) (.pair (.int .i64) (.pair (.int .i64) .unit)))) (a1)), (5, .v (.int .i64) v0_2)], []⟩
def step0 (call : Cl) (k : Nat) (a0 : (List (Int × (Int × (Int × Unit))))) (a1 : (List (Int × (Int × (Int × Unit)))))   (r0 : (Int) → Option R) (v0_2 : Int) : Option R :=
    bif decide (v0_2 < (↑a0.length : Int)) then
    bif decide ((0 : Int) ≤ v0_2) then
      (lget a0 v0_2.toNat).bind fun (y0 : Int × Int × Int × PUnit) =>
        bif decide ((0 : Int) ≤ v0_2) then
          (lget a1 v0_2.toNat).bind fun (y1 : Int × Int × Int × PUnit) =>
            (call (146 : Nat) s_laws_eqKnot (y0, y1, ())).bind fun (y2 : (Bool × PUnit) × PUnit) =>
              bif !y2.fst.fst then some ((false, ()), ()) else r0 (IntKind.i64.wrap (v0_2 + (1 : Int)))
        else none
    else none
  else some ((true, ()), ())
def L0 (call : Cl) (k : Nat) (a0 : (List (Int × (Int × (Int × Unit))))) (a1 : (List (Int × (Int × (Int × Unit)))))  : Nat → (Int) → Option R
    | 0, _ => none
    | n + 1, v0_2 => step0 call k a0 a1   (L0 call k a0 a1  n) v0_2
def Fm (call : Cl) (k : Nat) (l0 : ((List (Int × (Int × (Int × Unit))))) → ((List (Int × (Int × (Int × Unit))))) → (Int) → Option R) (a0 : (List (Int × (Int × (Int × Unit))))) (a1 : (List (Int × (Int × (Int × Unit))))) : Option R :=
    bif (↑a0.length : Int) != (↑a1.length : Int) then some ((false, ()), ()) else l0 a0 a1 (0 : Int)
def F (call : Cl) (k : Nat) (a0 : (List (Int × (Int × (Int × Unit))))) (a1 : (List (Int × (Int × (Int × Unit))))) : Option R := Fm call k (fun a0_ a1_ v0_2_ => L0 call k a0_ a1_ k v0_2_) a0 a1
theorem L0_eq (call : Cl) (k : Nat) (J : Nat → St → Option R) (a0 : Y2_2) (a1 : Y2_2) : ∀ (n : Nat) (x : (Int)), siteI E call n_laws_eqKnotS k s_laws_eqKnotS (a0, a1, ()) J 0 n (S0 a0 a1 x) = L0 call k a0 a1  n x := by
  refine loop_eq (E := E) (call := call) (f := n_laws_eqKnotS) (k := k) (s := s_laws_eqKnotS) (l := (a0, a1, ())) (J := J) (i := 0) (X := (Int)) (fun x => S0 a0 a1 x) (fun n x => L0 call k a0 a1  n x) (fun r x => step0 call k a0 a1   (fun v0_2 => r v0_2) x) ?_ ?_ ?_
  · intro x; rfl
  · intro n x; rfl
  intro J0 x
  kernel_rfl
theorem F_eq (call : Cl) (k : Nat) (a0 : Y2_2) (a1 : Y2_2) : bodyK E call n_laws_eqKnotS k s_laws_eqKnotS (a0, a1, ()) = F call k a0 a1 := by
  exact Eq.trans (b := Fm call k (fun a0 a1 v0_2_ => siteI E call n_laws_eqKnotS k s_laws_eqKnotS (a0, a1, ()) (fun _ _ => none) 0 k (S0 a0 a1 v0_2_)) a0 a1) (by kernel_rfl) (congrArg (fun l => Fm call k l a0 a1) (funext fun a0 => funext fun a1 => funext fun v0_2_ => L0_eq call k (fun _ _ => none) a0 a1 k v0_2_))
end laws_eqKnotS
/-! #### laws_eqDia -/
namespace laws_eqDia
abbrev R := ((Bool × Unit) × Unit)
def Fm (call : Cl) (k : Nat)  (a0 : (Int × (Int × ((List (Int × (Int × (Int × Unit)))) × Unit)))) (a1 : (Int × (Int × ((List (Int × (Int × (Int × Unit)))) × Unit)))) : Option R :=
    bif a0.fst != a1.fst then some ((false, ()), ())
  else
    bif a0.snd.fst != a1.snd.fst then some ((false, ()), ())
    else
      (call (89 : Nat) s_laws_eqKnotS (a0.snd.snd.fst, a1.snd.snd.fst, ())).bind fun (y0 : (Bool × PUnit) × PUnit) =>
        bif !y0.fst.fst then some ((false, ()), ()) else some ((true, ()), ())
def F (call : Cl) (k : Nat) (a0 : (Int × (Int × ((List (Int × (Int × (Int × Unit)))) × Unit)))) (a1 : (Int × (Int × ((List (Int × (Int × (Int × Unit)))) × Unit)))) : Option R := Fm call k  a0 a1
theorem F_eq (call : Cl) (k : Nat) (a0 : Y2_1) (a1 : Y2_1) : bodyK E call n_laws_eqDia k s_laws_eqDia (a0, a1, ()) = F call k a0 a1 := by
  kernel_rfl
end laws_eqDia
/-! #### laws_markKnotS -/
namespace laws_markKnotS
abbrev R := ((Int × Unit) × ((List (Int × (Int × (Int × Unit)))) × Unit))
def S0 (v0_0 : Int) (v0_1 : Int) (v0_2 : Y2_2) : St := ⟨mkS 34 [(0, .ref [0]), (1, .v (.int .i64) v0_0), (5, .v (.int .i64) v0_1)], [([0], .list 92 (.pair (.int .i64) (.pair (.int .i64) (.pair (.int .i64) .unit))) v0_2)]⟩
def step0 (call : Cl) (k : Nat)    (r0 : (Int) → (Int) → ((List (Int × (Int × (Int × Unit))))) → Option R) (v0_0 : Int) (v0_1 : Int) (v0_2 : (List (Int × (Int × (Int × Unit))))) : Option R :=
    bif decide (v0_1 < (↑v0_2.length : Int)) then
    bif decide ((0 : Int) ≤ v0_1) && decide (v0_1.toNat < v0_2.length) then
      (lget v0_2 v0_1.toNat).bind fun (y0 : Int × Int × Int × PUnit) =>
        bif decide ((0 : Int) ≤ v0_1) && decide (v0_1.toNat < (v0_2.set v0_1.toNat (v0_0, y0.snd)).length) then
          (lget (v0_2.set v0_1.toNat (v0_0, y0.snd)) v0_1.toNat).bind fun (y1 : Int × Int × Int × PUnit) =>
            bif
                decide ((0 : Int) ≤ v0_1) &&
                  decide
                    (v0_1.toNat <
                      ((v0_2.set v0_1.toNat (v0_0, y0.snd)).set v0_1.toNat
                          (y1.fst, IntKind.i64.wrap (v0_0 + (1 : Int)), y1.snd.snd)).length) then
              (lget
                    ((v0_2.set v0_1.toNat (v0_0, y0.snd)).set v0_1.toNat
                      (y1.fst, IntKind.i64.wrap (v0_0 + (1 : Int)), y1.snd.snd))
                    v0_1.toNat).bind
                fun (y2 : Int × Int × Int × PUnit) =>
                r0 (IntKind.i64.wrap (IntKind.i64.wrap (IntKind.i64.wrap (v0_0 + (1 : Int)) + (1 : Int)) + (1 : Int)))
                  (IntKind.i64.wrap (v0_1 + (1 : Int)))
                  (((v0_2.set v0_1.toNat (v0_0, y0.snd)).set v0_1.toNat
                        (y1.fst, IntKind.i64.wrap (v0_0 + (1 : Int)), y1.snd.snd)).set
                    v0_1.toNat
                    (y2.fst, y2.snd.fst, IntKind.i64.wrap (IntKind.i64.wrap (v0_0 + (1 : Int)) + (1 : Int)),
                      y2.snd.snd.snd))
            else none
        else none
    else none
  else some ((v0_0, ()), v0_2, ())
def L0 (call : Cl) (k : Nat)   : Nat → (Int) → (Int) → ((List (Int × (Int × (Int × Unit))))) → Option R
    | 0, _, _, _ => none
    | n + 1, v0_0, v0_1, v0_2 => step0 call k    (L0 call k   n) v0_0 v0_1 v0_2
def Fm (call : Cl) (k : Nat) (l0 : (Int) → (Int) → ((List (Int × (Int × (Int × Unit))))) → Option R) (a0 : (List (Int × (Int × (Int × Unit))))) (a1 : Int) : Option R :=
    l0 a1 (0 : Int) a0
def F (call : Cl) (k : Nat) (a0 : (List (Int × (Int × (Int × Unit))))) (a1 : Int) : Option R := Fm call k (fun v0_0_ v0_1_ v0_2_ => L0 call k  k v0_0_ v0_1_ v0_2_) a0 a1
theorem L0_eq (call : Cl) (k : Nat) (J : Nat → St → Option R) (a0 : Y2_2) (a1 : Int) : ∀ (n : Nat) (x : ((Int) × (Int) × (Y2_2))), siteI E call n_laws_markKnotS k s_laws_markKnotS (a0, a1, ()) J 0 n (S0  x.1 x.2.1 x.2.2) = L0 call k   n x.1 x.2.1 x.2.2 := by
  refine loop_eq (E := E) (call := call) (f := n_laws_markKnotS) (k := k) (s := s_laws_markKnotS) (l := (a0, a1, ())) (J := J) (i := 0) (X := ((Int) × (Int) × (Y2_2))) (fun x => S0  x.1 x.2.1 x.2.2) (fun n x => L0 call k   n x.1 x.2.1 x.2.2) (fun r x => step0 call k    (fun v0_0 v0_1 v0_2 => r (v0_0, v0_1, v0_2)) x.1 x.2.1 x.2.2) ?_ ?_ ?_
  · intro x; rfl
  · intro n x; rfl
  intro J0 x
  kernel_rfl
theorem F_eq (call : Cl) (k : Nat) (a0 : Y2_2) (a1 : Int) : bodyK E call n_laws_markKnotS k s_laws_markKnotS (a0, a1, ()) = F call k a0 a1 := by
  exact Eq.trans (b := Fm call k (fun v0_0_ v0_1_ v0_2_ => siteI E call n_laws_markKnotS k s_laws_markKnotS (a0, a1, ()) (fun _ _ => none) 0 k (S0 v0_0_ v0_1_ v0_2_)) a0 a1) (by kernel_rfl) (congrArg (fun l => Fm call k l a0 a1) (funext fun v0_0_ => funext fun v0_1_ => funext fun v0_2_ => L0_eq call k (fun _ _ => none) a0 a1 k (v0_0_, v0_1_, v0_2_)))
end laws_markKnotS
/-! #### laws_markDia -/
namespace laws_markDia
abbrev R := ((Int × Unit) × ((Int × (Int × ((List (Int × (Int × (Int × Unit)))) × Unit))) × Unit))
def Fm (call : Cl) (k : Nat)  (a0 : (Int × (Int × ((List (Int × (Int × (Int × Unit)))) × Unit)))) (a1 : Int) : Option R :=
    (call (90 : Nat) s_laws_markKnotS (a0.snd.snd.fst, a1, ())).bind
    fun (y0 : (Int × PUnit) × List (Int × Int × Int × PUnit) × PUnit) =>
    some ((y0.fst.fst, ()), (a0.fst, a0.snd.fst, y0.snd.fst, a0.snd.snd.snd), ())
def F (call : Cl) (k : Nat) (a0 : (Int × (Int × ((List (Int × (Int × (Int × Unit)))) × Unit)))) (a1 : Int) : Option R := Fm call k  a0 a1
theorem F_eq (call : Cl) (k : Nat) (a0 : Y2_1) (a1 : Int) : bodyK E call n_laws_markDia k s_laws_markDia (a0, a1, ()) = F call k a0 a1 := by
  kernel_rfl
end laws_markDia
/-! #### laws_heldKnotS -/
namespace laws_heldKnotS
abbrev R := ((Int × Unit) × Unit)
def S0 (a0 : Y2_2) (v0_1 : Int) (v0_2 : Int) : St := ⟨mkS 40 [(0, .v (.slc (.pair (.int .i64) (.pair (.int .i64) (.pair (.int .i64) .unit)))) (a0)), (1, .v (.int .i64) v0_1), (5, .v (.int .i64) v0_2)], []⟩
def step0 (call : Cl) (k : Nat) (a0 : (List (Int × (Int × (Int × Unit)))))   (r0 : (Int) → (Int) → Option R) (v0_1 : Int) (v0_2 : Int) : Option R :=
    bif decide (v0_2 < (↑a0.length : Int)) then
    bif decide ((0 : Int) ≤ v0_2) then
      (lget a0 v0_2.toNat).bind fun (y0 : Int × Int × Int × PUnit) =>
        bif y0.fst != v0_1 then some (((-1 : Int), ()), ())
        else
          bif decide ((0 : Int) ≤ v0_2) then
            (lget a0 v0_2.toNat).bind fun (y1 : Int × Int × Int × PUnit) =>
              bif y1.snd.fst != IntKind.i64.wrap (v0_1 + (1 : Int)) then some (((-1 : Int), ()), ())
              else
                bif decide ((0 : Int) ≤ v0_2) then
                  (lget a0 v0_2.toNat).bind fun (y2 : Int × Int × Int × PUnit) =>
                    bif y2.snd.snd.fst != IntKind.i64.wrap (IntKind.i64.wrap (v0_1 + (1 : Int)) + (1 : Int)) then
                      some (((-1 : Int), ()), ())
                    else
                      r0
                        (IntKind.i64.wrap
                          (IntKind.i64.wrap (IntKind.i64.wrap (v0_1 + (1 : Int)) + (1 : Int)) + (1 : Int)))
                        (IntKind.i64.wrap (v0_2 + (1 : Int)))
                else none
          else none
    else none
  else some ((v0_1, ()), ())
def L0 (call : Cl) (k : Nat) (a0 : (List (Int × (Int × (Int × Unit)))))  : Nat → (Int) → (Int) → Option R
    | 0, _, _ => none
    | n + 1, v0_1, v0_2 => step0 call k a0   (L0 call k a0  n) v0_1 v0_2
def Fm (call : Cl) (k : Nat) (l0 : ((List (Int × (Int × (Int × Unit))))) → (Int) → (Int) → Option R) (a0 : (List (Int × (Int × (Int × Unit))))) (a1 : Int) : Option R :=
    l0 a0 a1 (0 : Int)
def F (call : Cl) (k : Nat) (a0 : (List (Int × (Int × (Int × Unit))))) (a1 : Int) : Option R := Fm call k (fun a0_ v0_1_ v0_2_ => L0 call k a0_ k v0_1_ v0_2_) a0 a1
theorem L0_eq (call : Cl) (k : Nat) (J : Nat → St → Option R) (a0 : Y2_2) (a1 : Int) : ∀ (n : Nat) (x : Y2_6), siteI E call n_laws_heldKnotS k s_laws_heldKnotS (a0, a1, ()) J 0 n (S0 a0 x.1 x.2) = L0 call k a0  n x.1 x.2 := by
  refine loop_eq (E := E) (call := call) (f := n_laws_heldKnotS) (k := k) (s := s_laws_heldKnotS) (l := (a0, a1, ())) (J := J) (i := 0) (X := Y2_6) (fun x => S0 a0 x.1 x.2) (fun n x => L0 call k a0  n x.1 x.2) (fun r x => step0 call k a0   (fun v0_1 v0_2 => r (v0_1, v0_2)) x.1 x.2) ?_ ?_ ?_
  · intro x; rfl
  · intro n x; rfl
  intro J0 x
  kernel_rfl
theorem F_eq (call : Cl) (k : Nat) (a0 : Y2_2) (a1 : Int) : bodyK E call n_laws_heldKnotS k s_laws_heldKnotS (a0, a1, ()) = F call k a0 a1 := by
  exact Eq.trans (b := Fm call k (fun a0 v0_1_ v0_2_ => siteI E call n_laws_heldKnotS k s_laws_heldKnotS (a0, a1, ()) (fun _ _ => none) 0 k (S0 a0 v0_1_ v0_2_)) a0 a1) (by kernel_rfl) (congrArg (fun l => Fm call k l a0 a1) (funext fun a0 => funext fun v0_1_ => funext fun v0_2_ => L0_eq call k (fun _ _ => none) a0 a1 k (v0_1_, v0_2_)))
end laws_heldKnotS
/-! #### laws_heldDia -/
namespace laws_heldDia
abbrev R := ((Int × Unit) × Unit)
def Fm (call : Cl) (k : Nat)  (a0 : (Int × (Int × ((List (Int × (Int × (Int × Unit)))) × Unit)))) (a1 : Int) : Option R :=
    (call (91 : Nat) s_laws_heldKnotS (a0.snd.snd.fst, a1, ())).bind fun (y0 : (Int × PUnit) × PUnit) =>
    bif decide (y0.fst.fst < (0 : Int)) then some (((-1 : Int), ()), ()) else some ((y0.fst.fst, ()), ())
def F (call : Cl) (k : Nat) (a0 : (Int × (Int × ((List (Int × (Int × (Int × Unit)))) × Unit)))) (a1 : Int) : Option R := Fm call k  a0 a1
theorem F_eq (call : Cl) (k : Nat) (a0 : Y2_1) (a1 : Int) : bodyK E call n_laws_heldDia k s_laws_heldDia (a0, a1, ()) = F call k a0 a1 := by
  kernel_rfl
end laws_heldDia
/-! #### spec_l13Yes -/
namespace spec_l13Yes
abbrev R := ((Bool × Unit) × Unit)
def S0 (a0 : Y2_1) (a2 : (List Bool)) (v0_0 : Int) : St := ⟨mkS 27 [(1, .v (.int .i64) v0_0), (2, .v (.slc .bool) (a2)), (3, .p [3] [] 0)], [([3], .box (.v (.pair (.int .i64) (.pair (.int .i64) (.pair (.slc (.pair (.int .i64) (.pair (.int .i64) (.pair (.int .i64) .unit)))) .unit))) ((a0.fst), ((a0.snd.fst), ((a0.snd.snd.fst), ())))))]⟩
def step0 (call : Cl) (k : Nat) (a0 : (Int × (Int × ((List (Int × (Int × (Int × Unit)))) × Unit)))) (a2 : (List Bool))   (r0 : (Int) → Option R) (v0_0 : Int) : Option R :=
    bif decide (v0_0 > (1 : Int)) then
    bif decide ((0 : Int) ≤ IntKind.i64.wrap (v0_0 - (2 : Int))) then
      (lget a0.snd.snd.fst (IntKind.i64.wrap (v0_0 - (2 : Int))).toNat).bind fun (y0 : Int × Int × Int × PUnit) =>
        bif decide ((0 : Int) ≤ y0.fst) then
          (lget a2 (Int.toNat y0.fst)).bind fun (y1 : Bool) => bif y1 then r0 y0.snd.snd.fst else r0 y0.snd.fst
        else none
    else none
  else some ((v0_0 == (1 : Int), ()), ())
def L0 (call : Cl) (k : Nat) (a0 : (Int × (Int × ((List (Int × (Int × (Int × Unit)))) × Unit)))) (a2 : (List Bool))  : Nat → (Int) → Option R
    | 0, _ => none
    | n + 1, v0_0 => step0 call k a0 a2   (L0 call k a0 a2  n) v0_0
def Fm (call : Cl) (k : Nat) (l0 : ((Int × (Int × ((List (Int × (Int × (Int × Unit)))) × Unit)))) → ((List Bool)) → (Int) → Option R) (a0 : (Int × (Int × ((List (Int × (Int × (Int × Unit)))) × Unit)))) (a1 : Int) (a2 : (List Bool)) : Option R :=
    l0 a0 a2 a1
def F (call : Cl) (k : Nat) (a0 : (Int × (Int × ((List (Int × (Int × (Int × Unit)))) × Unit)))) (a1 : Int) (a2 : (List Bool)) : Option R := Fm call k (fun a0_ a2_ v0_0_ => L0 call k a0_ a2_ k v0_0_) a0 a1 a2
theorem L0_eq (call : Cl) (k : Nat) (J : Nat → St → Option R) (a0 : Y2_1) (a1 : Int) (a2 : (List Bool)) : ∀ (n : Nat) (x : (Int)), siteI E call n_spec_l13Yes k s_spec_l13Yes (a0, a1, a2, ()) J 0 n (S0 a0 a2 x) = L0 call k a0 a2  n x := by
  refine loop_eq (E := E) (call := call) (f := n_spec_l13Yes) (k := k) (s := s_spec_l13Yes) (l := (a0, a1, a2, ())) (J := J) (i := 0) (X := (Int)) (fun x => S0 a0 a2 x) (fun n x => L0 call k a0 a2  n x) (fun r x => step0 call k a0 a2   (fun v0_0 => r v0_0) x) ?_ ?_ ?_
  · intro x; rfl
  · intro n x; rfl
  intro J0 x
  kernel_rfl
theorem F_eq (call : Cl) (k : Nat) (a0 : Y2_1) (a1 : Int) (a2 : (List Bool)) : bodyK E call n_spec_l13Yes k s_spec_l13Yes (a0, a1, a2, ()) = F call k a0 a1 a2 := by
  exact Eq.trans (b := Fm call k (fun a0 a2 v0_0_ => siteI E call n_spec_l13Yes k s_spec_l13Yes (a0, a1, a2, ()) (fun _ _ => none) 0 k (S0 a0 a2 v0_0_)) a0 a1 a2) (by kernel_rfl) (congrArg (fun l => Fm call k l a0 a1 a2) (funext fun a0 => funext fun a2 => funext fun v0_0_ => L0_eq call k (fun _ _ => none) a0 a1 a2 k v0_0_))
end spec_l13Yes
/-! #### spec_l13Table -/
namespace spec_l13Table
abbrev R := (((List Bool) × Unit) × Unit)
def S0 (a0 : Y2_1) (v0_0 : Int) (v0_1 : (List Bool)) : St := ⟨mkS 25 [(1, .p [1] [] 0), (3, .ref [3]), (4, .v (.int .i64) v0_0)], [([3], .list 4 .bool v0_1), ([1], .box (.v (.pair (.int .i64) (.pair (.int .i64) (.pair (.slc (.pair (.int .i64) (.pair (.int .i64) (.pair (.int .i64) .unit)))) .unit))) ((a0.fst), ((a0.snd.fst), ((a0.snd.snd.fst), ())))))]⟩
def step0 (call : Cl) (k : Nat) (a0 : (Int × (Int × ((List (Int × (Int × (Int × Unit)))) × Unit))))   (r0 : (Int) → ((List Bool)) → Option R) (v0_0 : Int) (v0_1 : (List Bool)) : Option R :=
    (call (124 : Nat) s_spec_l13Size (a0.fst, ())).bind fun (y0 : (Int × PUnit) × PUnit) =>
    bif decide (v0_0 < y0.fst.fst) then
      (call (125 : Nat) s_spec_l13Bits (a0.fst, v0_0, ())).bind fun (y1 : (List Bool × PUnit) × PUnit) =>
        (call (120 : Nat) s_spec_l13Yes ((a0.fst, a0.snd.fst, a0.snd.snd.fst, ()), a0.snd.fst, y1.fst.fst, ())).bind
          fun (y2 : (Bool × PUnit) × PUnit) =>
          bif decide ((v0_1.length + [y2.fst.fst].length) * ti4.bytes ≤ (140737488355328 : Nat)) then
            r0 (IntKind.i64.wrap (v0_0 + (1 : Int))) (v0_1 ++ [y2.fst.fst])
          else none
    else some ((v0_1, ()), ())
def L0 (call : Cl) (k : Nat) (a0 : (Int × (Int × ((List (Int × (Int × (Int × Unit)))) × Unit))))  : Nat → (Int) → ((List Bool)) → Option R
    | 0, _, _ => none
    | n + 1, v0_0, v0_1 => step0 call k a0   (L0 call k a0  n) v0_0 v0_1
def Fm (call : Cl) (k : Nat) (l0 : ((Int × (Int × ((List (Int × (Int × (Int × Unit)))) × Unit)))) → (Int) → ((List Bool)) → Option R) (a0 : (Int × (Int × ((List (Int × (Int × (Int × Unit)))) × Unit)))) : Option R :=
    l0 a0 (0 : Int) []
def F (call : Cl) (k : Nat) (a0 : (Int × (Int × ((List (Int × (Int × (Int × Unit)))) × Unit)))) : Option R := Fm call k (fun a0_ v0_0_ v0_1_ => L0 call k a0_ k v0_0_ v0_1_) a0
theorem L0_eq (call : Cl) (k : Nat) (J : Nat → St → Option R) (a0 : Y2_1) : ∀ (n : Nat) (x : Y2_5), siteI E call n_spec_l13Table k s_spec_l13Table (a0, ()) J 0 n (S0 a0 x.1 x.2) = L0 call k a0  n x.1 x.2 := by
  refine loop_eq (E := E) (call := call) (f := n_spec_l13Table) (k := k) (s := s_spec_l13Table) (l := (a0, ())) (J := J) (i := 0) (X := Y2_5) (fun x => S0 a0 x.1 x.2) (fun n x => L0 call k a0  n x.1 x.2) (fun r x => step0 call k a0   (fun v0_0 v0_1 => r (v0_0, v0_1)) x.1 x.2) ?_ ?_ ?_
  · intro x; rfl
  · intro n x; rfl
  intro J0 x
  kernel_rfl
theorem F_eq (call : Cl) (k : Nat) (a0 : Y2_1) : bodyK E call n_spec_l13Table k s_spec_l13Table (a0, ()) = F call k a0 := by
  exact Eq.trans (b := Fm call k (fun a0 v0_0_ v0_1_ => siteI E call n_spec_l13Table k s_spec_l13Table (a0, ()) (fun _ _ => none) 0 k (S0 a0 v0_0_ v0_1_)) a0) (by kernel_rfl) (congrArg (fun l => Fm call k l a0) (funext fun a0 => funext fun v0_0_ => funext fun v0_1_ => L0_eq call k (fun _ _ => none) a0 k (v0_0_, v0_1_)))
end spec_l13Table
/-! #### spec_l13Put -/
namespace spec_l13Put
abbrev R := (((List (Int × (Int × (Int × Unit)))) × (Int × Unit)) × Unit)
def S0 (a1 : Int) (y2 : Y2_0) (y3 : Y2_0) (v0_0 : Int) : St := ⟨mkS 75 [(0, .ref [0]), (11, .p [11] [] 0), (12, .v (.int .i64) v0_0)], [([11], .box (.v (.pair (.int .i64) (.pair (.int .i64) (.pair (.int .i64) .unit))) ((a1), ((y2.fst.snd.fst), ((y3.fst.snd.fst), ()))))), ([0], .list 92 (.pair (.int .i64) (.pair (.int .i64) (.pair (.int .i64) .unit))) (y3.fst.fst))]⟩
def step0 (call : Cl) (k : Nat) (a1 : Int) (y2 : (((List (Int × (Int × (Int × Unit)))) × (Int × Unit)) × Unit)) (y3 : (((List (Int × (Int × (Int × Unit)))) × (Int × Unit)) × Unit))   (r0 : (Int) → Option R) (v0_0 : Int) : Option R :=
    bif decide (v0_0 < (↑(List.length y3.fst.fst) : Int)) then
    bif decide ((0 : Int) ≤ v0_0) && decide (v0_0.toNat < List.length y3.fst.fst) then
      (lget y3.fst.fst v0_0.toNat).bind fun (y4 : Int × Int × Int × PUnit) =>
        bif
            eqV ((Ty.int IntKind.i64).pair ((Ty.int IntKind.i64).pair ((Ty.int IntKind.i64).pair Ty.unit))) y4
              (a1, y2.fst.snd.fst, y3.fst.snd.fst, ()) then
          some ((y3.fst.fst, IntKind.i64.wrap (v0_0 + (2 : Int)), ()), ())
        else r0 (IntKind.i64.wrap (v0_0 + (1 : Int)))
    else none
  else
    bif
        decide
          ((List.length y3.fst.fst + [(a1, y2.fst.snd.fst, y3.fst.snd.fst, ())].length) * ti92.bytes ≤
            (140737488355328 : Nat)) then
      some
        ((y3.fst.fst ++ [(a1, y2.fst.snd.fst, y3.fst.snd.fst, ())],
            IntKind.i64.wrap ((↑(List.length y3.fst.fst) : Int) + (2 : Int)), ()),
          ())
    else none
def L0 (call : Cl) (k : Nat) (a1 : Int) (y2 : (((List (Int × (Int × (Int × Unit)))) × (Int × Unit)) × Unit)) (y3 : (((List (Int × (Int × (Int × Unit)))) × (Int × Unit)) × Unit))  : Nat → (Int) → Option R
    | 0, _ => none
    | n + 1, v0_0 => step0 call k a1 y2 y3   (L0 call k a1 y2 y3  n) v0_0
def Fm (call : Cl) (k : Nat) (l0 : (Int) → ((((List (Int × (Int × (Int × Unit)))) × (Int × Unit)) × Unit)) → ((((List (Int × (Int × (Int × Unit)))) × (Int × Unit)) × Unit)) → (Int) → Option R) (a0 : (List (Int × (Int × (Int × Unit))))) (a1 : Int) (a2 : (List Bool)) : Option R :=
    bif (↑a2.length : Int) == (1 : Int) then
    (lget a2 (Int.toNat (0 : Int))).bind fun (y0 : Bool) =>
      (call (92 : Nat) s_spec_l5Bit (y0, ())).bind fun (y1 : (Int × PUnit) × PUnit) => some ((a0, y1.fst.fst, ()), ())
  else
    bif decide ((0 : Int) ≤ IntKind.i64.wrap ((↑a2.length : Int).tdiv (2 : Int))) then
      bif
          decide ((0 : Nat) ≤ (IntKind.i64.wrap ((↑a2.length : Int).tdiv (2 : Int))).toNat) &&
            decide ((IntKind.i64.wrap ((↑a2.length : Int).tdiv (2 : Int))).toNat ≤ a2.length) then
        (call (151 : Nat) s_spec_l13Put
              (a0, IntKind.i64.wrap (a1 + (1 : Int)),
                List.take ((IntKind.i64.wrap ((↑a2.length : Int).tdiv (2 : Int))).toNat - (0 : Nat))
                  (List.drop (0 : Nat) a2),
                ())).bind
          fun (y2 : (List (Int × Int × Int × PUnit) × Int × PUnit) × PUnit) =>
          bif decide ((0 : Int) ≤ IntKind.i64.wrap ((↑a2.length : Int).tdiv (2 : Int))) then
            bif
                decide ((IntKind.i64.wrap ((↑a2.length : Int).tdiv (2 : Int))).toNat ≤ a2.length) &&
                  decide (a2.length ≤ a2.length) then
              (call (151 : Nat) s_spec_l13Put
                    (y2.fst.fst, IntKind.i64.wrap (a1 + (1 : Int)),
                      List.take (a2.length - (IntKind.i64.wrap ((↑a2.length : Int).tdiv (2 : Int))).toNat)
                        (List.drop (IntKind.i64.wrap ((↑a2.length : Int).tdiv (2 : Int))).toNat a2),
                      ())).bind
                fun (y3 : (List (Int × Int × Int × PUnit) × Int × PUnit) × PUnit) =>
                bif y2.fst.snd.fst == y3.fst.snd.fst then some ((y3.fst.fst, y2.fst.snd.fst, ()), ()) else l0 a1 y2 y3 (0 : Int)
            else none
          else none
      else none
    else none
def F (call : Cl) (k : Nat) (a0 : (List (Int × (Int × (Int × Unit))))) (a1 : Int) (a2 : (List Bool)) : Option R := Fm call k (fun a1_ y2_ y3_ v0_0_ => L0 call k a1_ y2_ y3_ k v0_0_) a0 a1 a2
theorem L0_eq (call : Cl) (k : Nat) (J : Nat → St → Option R) (a0 : Y2_2) (a1 : Int) (a2 : (List Bool)) (y2 : Y2_0) (y3 : Y2_0) : ∀ (n : Nat) (x : (Int)), siteI E call n_spec_l13Put k s_spec_l13Put (a0, a1, a2, ()) J 0 n (S0 a1 y2 y3 x) = L0 call k a1 y2 y3  n x := by
  refine loop_eq (E := E) (call := call) (f := n_spec_l13Put) (k := k) (s := s_spec_l13Put) (l := (a0, a1, a2, ())) (J := J) (i := 0) (X := (Int)) (fun x => S0 a1 y2 y3 x) (fun n x => L0 call k a1 y2 y3  n x) (fun r x => step0 call k a1 y2 y3   (fun v0_0 => r v0_0) x) ?_ ?_ ?_
  · intro x; rfl
  · intro n x; rfl
  intro J0 x
  kernel_rfl
theorem F_eq (call : Cl) (k : Nat) (a0 : Y2_2) (a1 : Int) (a2 : (List Bool)) : bodyK E call n_spec_l13Put k s_spec_l13Put (a0, a1, a2, ()) = F call k a0 a1 a2 := by
  exact Eq.trans (b := Fm call k (fun a1 y2 y3 v0_0_ => siteI E call n_spec_l13Put k s_spec_l13Put (a0, a1, a2, ()) (fun _ _ => none) 0 k (S0 a1 y2 y3 v0_0_)) a0 a1 a2) (by kernel_rfl) (congrArg (fun l => Fm call k l a0 a1 a2) (funext fun a1 => funext fun y2 => funext fun y3 => funext fun v0_0_ => L0_eq call k (fun _ _ => none) a0 a1 a2 y2 y3 k v0_0_))
end spec_l13Put
/-! #### spec_l13Make -/
namespace spec_l13Make
abbrev R := (((Int × (Int × ((List (Int × (Int × (Int × Unit)))) × Unit))) × Unit) × Unit)
def Fm (call : Cl) (k : Nat)  (a0 : Int) (a1 : (List Bool)) : Option R :=
    (call (151 : Nat) s_spec_l13Put ([], (0 : Int), a1, ())).bind
    fun (y0 : (List (Int × Int × Int × PUnit) × Int × PUnit) × PUnit) =>
    some (((a0, y0.fst.snd.fst, y0.fst.fst, ()), ()), ())
def F (call : Cl) (k : Nat) (a0 : Int) (a1 : (List Bool)) : Option R := Fm call k  a0 a1
theorem F_eq (call : Cl) (k : Nat) (a0 : Int) (a1 : (List Bool)) : bodyK E call n_spec_l13Make k s_spec_l13Make (a0, a1, ()) = F call k a0 a1 := by
  kernel_rfl
end spec_l13Make
/-! #### spec_l13Refs -/
namespace spec_l13Refs
abbrev R := ((Bool × Unit) × Unit)
def S0 (a0 : Y2_1) (v0_1 : Int) : St := ⟨mkS 92 [(1, .p [1] [] 0), (3, .v (.int .i64) ((↑(List.length a0.snd.snd.fst) : Int))), (4, .v (.int .i64) v0_1)], [([1], .box (.v (.pair (.int .i64) (.pair (.int .i64) (.pair (.slc (.pair (.int .i64) (.pair (.int .i64) (.pair (.int .i64) .unit)))) .unit))) ((a0.fst), ((a0.snd.fst), ((a0.snd.snd.fst), ())))))]⟩
def step0 (call : Cl) (k : Nat) (a0 : (Int × (Int × ((List (Int × (Int × (Int × Unit)))) × Unit))))   (r0 : (Int) → Option R) (v0_1 : Int) : Option R :=
    bif decide (v0_1 < (↑(List.length a0.snd.snd.fst) : Int)) then
    bif decide ((0 : Int) ≤ v0_1) then
      (lget a0.snd.snd.fst v0_1.toNat).bind fun (y2 : Int × Int × Int × PUnit) =>
        (call (88 : Nat) s_spec_l1In (y2.fst, (0 : Int), IntKind.i64.wrap (a0.fst - (1 : Int)), ())).bind
          fun (y3 : (Bool × PUnit) × PUnit) =>
          bif !y3.fst.fst then some ((false, ()), ())
          else
            (call (88 : Nat) s_spec_l1In (y2.snd.fst, (0 : Int), IntKind.i64.wrap (v0_1 + (1 : Int)), ())).bind
              fun (y4 : (Bool × PUnit) × PUnit) =>
              bif !y4.fst.fst then some ((false, ()), ())
              else
                (call (88 : Nat) s_spec_l1In (y2.snd.snd.fst, (0 : Int), IntKind.i64.wrap (v0_1 + (1 : Int)), ())).bind
                  fun (y5 : (Bool × PUnit) × PUnit) =>
                  bif !y5.fst.fst then some ((false, ()), ())
                  else
                    bif decide (y2.snd.fst > (1 : Int)) then
                      bif decide ((0 : Int) ≤ IntKind.i64.wrap (y2.snd.fst - (2 : Int))) then
                        (lget a0.snd.snd.fst (IntKind.i64.wrap (y2.snd.fst - (2 : Int))).toNat).bind
                          fun (y6 : Int × Int × Int × PUnit) =>
                          bif decide (y6.fst ≤ y2.fst) then some ((false, ()), ())
                          else
                            bif decide (y2.snd.snd.fst > (1 : Int)) then
                              bif decide ((0 : Int) ≤ IntKind.i64.wrap (y2.snd.snd.fst - (2 : Int))) then
                                (lget a0.snd.snd.fst (IntKind.i64.wrap (y2.snd.snd.fst - (2 : Int))).toNat).bind
                                  fun (y7 : Int × Int × Int × PUnit) =>
                                  bif decide (y7.fst ≤ y2.fst) then some ((false, ()), ())
                                  else r0 (IntKind.i64.wrap (v0_1 + (1 : Int)))
                              else none
                            else r0 (IntKind.i64.wrap (v0_1 + (1 : Int)))
                      else none
                    else
                      bif decide (y2.snd.snd.fst > (1 : Int)) then
                        bif decide ((0 : Int) ≤ IntKind.i64.wrap (y2.snd.snd.fst - (2 : Int))) then
                          (lget a0.snd.snd.fst (IntKind.i64.wrap (y2.snd.snd.fst - (2 : Int))).toNat).bind
                            fun (y8 : Int × Int × Int × PUnit) =>
                            bif decide (y8.fst ≤ y2.fst) then some ((false, ()), ())
                            else r0 (IntKind.i64.wrap (v0_1 + (1 : Int)))
                        else none
                      else r0 (IntKind.i64.wrap (v0_1 + (1 : Int)))
    else none
  else some ((true, ()), ())
def L0 (call : Cl) (k : Nat) (a0 : (Int × (Int × ((List (Int × (Int × (Int × Unit)))) × Unit))))  : Nat → (Int) → Option R
    | 0, _ => none
    | n + 1, v0_1 => step0 call k a0   (L0 call k a0  n) v0_1
def Fm (call : Cl) (k : Nat) (l0 : ((Int × (Int × ((List (Int × (Int × (Int × Unit)))) × Unit)))) → (Int) → Option R) (a0 : (Int × (Int × ((List (Int × (Int × (Int × Unit)))) × Unit)))) : Option R :=
    (call (88 : Nat) s_spec_l1In (a0.fst, (0 : Int), (10 : Int), ())).bind fun (y0 : (Bool × PUnit) × PUnit) =>
    bif !y0.fst.fst then some ((false, ()), ())
    else
      bif decide ((↑(List.length a0.snd.snd.fst) : Int) > (1023 : Int)) then some ((false, ()), ())
      else
        (call (88 : Nat) s_spec_l1In
              (a0.snd.fst, (0 : Int), IntKind.i64.wrap ((↑(List.length a0.snd.snd.fst) : Int) + (1 : Int)), ())).bind
          fun (y1 : (Bool × PUnit) × PUnit) => bif !y1.fst.fst then some ((false, ()), ()) else l0 a0 (0 : Int)
def F (call : Cl) (k : Nat) (a0 : (Int × (Int × ((List (Int × (Int × (Int × Unit)))) × Unit)))) : Option R := Fm call k (fun a0_ v0_1_ => L0 call k a0_ k v0_1_) a0
theorem L0_eq (call : Cl) (k : Nat) (J : Nat → St → Option R) (a0 : Y2_1) : ∀ (n : Nat) (x : (Int)), siteI E call n_spec_l13Refs k s_spec_l13Refs (a0, ()) J 0 n (S0 a0 x) = L0 call k a0  n x := by
  refine loop_eq (E := E) (call := call) (f := n_spec_l13Refs) (k := k) (s := s_spec_l13Refs) (l := (a0, ())) (J := J) (i := 0) (X := (Int)) (fun x => S0 a0 x) (fun n x => L0 call k a0  n x) (fun r x => step0 call k a0   (fun v0_1 => r v0_1) x) ?_ ?_ ?_
  · intro x; rfl
  · intro n x; rfl
  intro J0 x
  kernel_rfl
theorem F_eq (call : Cl) (k : Nat) (a0 : Y2_1) : bodyK E call n_spec_l13Refs k s_spec_l13Refs (a0, ()) = F call k a0 := by
  exact Eq.trans (b := Fm call k (fun a0 v0_1_ => siteI E call n_spec_l13Refs k s_spec_l13Refs (a0, ()) (fun _ _ => none) 0 k (S0 a0 v0_1_)) a0) (by kernel_rfl) (congrArg (fun l => Fm call k l a0) (funext fun a0 => funext fun v0_1_ => L0_eq call k (fun _ _ => none) a0 k v0_1_))
end spec_l13Refs
/-! #### spec_l13Like -/
namespace spec_l13Like
abbrev R := ((Bool × Unit) × Unit)
def S0 (a0 : Y2_1) (a1 : Y2_1) (v0_0 : Int) : St := ⟨mkS 45 [(2, .p [2] [] 0), (3, .p [3] [] 0), (5, .v (.int .i64) v0_0)], [([3], .box (.v (.pair (.int .i64) (.pair (.int .i64) (.pair (.slc (.pair (.int .i64) (.pair (.int .i64) (.pair (.int .i64) .unit)))) .unit))) ((a1.fst), ((a1.snd.fst), ((a1.snd.snd.fst), ()))))), ([2], .box (.v (.pair (.int .i64) (.pair (.int .i64) (.pair (.slc (.pair (.int .i64) (.pair (.int .i64) (.pair (.int .i64) .unit)))) .unit))) ((a0.fst), ((a0.snd.fst), ((a0.snd.snd.fst), ())))))]⟩
def step0 (call : Cl) (k : Nat) (a0 : (Int × (Int × ((List (Int × (Int × (Int × Unit)))) × Unit)))) (a1 : (Int × (Int × ((List (Int × (Int × (Int × Unit)))) × Unit))))   (r0 : (Int) → Option R) (v0_0 : Int) : Option R :=
    bif decide (v0_0 < (↑a0.snd.snd.fst.length : Int)) then
    bif decide ((0 : Int) ≤ v0_0) then
      (lget a0.snd.snd.fst v0_0.toNat).bind fun (y0 : Int × Int × Int × PUnit) =>
        bif decide ((0 : Int) ≤ v0_0) then
          (lget a1.snd.snd.fst v0_0.toNat).bind fun (y1 : Int × Int × Int × PUnit) =>
            bif
                !eqV ((Ty.int IntKind.i64).pair ((Ty.int IntKind.i64).pair ((Ty.int IntKind.i64).pair Ty.unit))) y0
                    y1 then
              some ((false, ()), ())
            else r0 (IntKind.i64.wrap (v0_0 + (1 : Int)))
        else none
    else none
  else some ((true, ()), ())
def L0 (call : Cl) (k : Nat) (a0 : (Int × (Int × ((List (Int × (Int × (Int × Unit)))) × Unit)))) (a1 : (Int × (Int × ((List (Int × (Int × (Int × Unit)))) × Unit))))  : Nat → (Int) → Option R
    | 0, _ => none
    | n + 1, v0_0 => step0 call k a0 a1   (L0 call k a0 a1  n) v0_0
def Fm (call : Cl) (k : Nat) (l0 : ((Int × (Int × ((List (Int × (Int × (Int × Unit)))) × Unit)))) → ((Int × (Int × ((List (Int × (Int × (Int × Unit)))) × Unit)))) → (Int) → Option R) (a0 : (Int × (Int × ((List (Int × (Int × (Int × Unit)))) × Unit)))) (a1 : (Int × (Int × ((List (Int × (Int × (Int × Unit)))) × Unit)))) : Option R :=
    bif a0.fst != a1.fst then some ((false, ()), ())
  else
    bif a0.snd.fst != a1.snd.fst then some ((false, ()), ())
    else
      bif (↑(List.length a0.snd.snd.fst) : Int) != (↑(List.length a1.snd.snd.fst) : Int) then some ((false, ()), ())
      else l0 a0 a1 (0 : Int)
def F (call : Cl) (k : Nat) (a0 : (Int × (Int × ((List (Int × (Int × (Int × Unit)))) × Unit)))) (a1 : (Int × (Int × ((List (Int × (Int × (Int × Unit)))) × Unit)))) : Option R := Fm call k (fun a0_ a1_ v0_0_ => L0 call k a0_ a1_ k v0_0_) a0 a1
theorem L0_eq (call : Cl) (k : Nat) (J : Nat → St → Option R) (a0 : Y2_1) (a1 : Y2_1) : ∀ (n : Nat) (x : (Int)), siteI E call n_spec_l13Like k s_spec_l13Like (a0, a1, ()) J 0 n (S0 a0 a1 x) = L0 call k a0 a1  n x := by
  refine loop_eq (E := E) (call := call) (f := n_spec_l13Like) (k := k) (s := s_spec_l13Like) (l := (a0, a1, ())) (J := J) (i := 0) (X := (Int)) (fun x => S0 a0 a1 x) (fun n x => L0 call k a0 a1  n x) (fun r x => step0 call k a0 a1   (fun v0_0 => r v0_0) x) ?_ ?_ ?_
  · intro x; rfl
  · intro n x; rfl
  intro J0 x
  kernel_rfl
theorem F_eq (call : Cl) (k : Nat) (a0 : Y2_1) (a1 : Y2_1) : bodyK E call n_spec_l13Like k s_spec_l13Like (a0, a1, ()) = F call k a0 a1 := by
  exact Eq.trans (b := Fm call k (fun a0 a1 v0_0_ => siteI E call n_spec_l13Like k s_spec_l13Like (a0, a1, ()) (fun _ _ => none) 0 k (S0 a0 a1 v0_0_)) a0 a1) (by kernel_rfl) (congrArg (fun l => Fm call k l a0 a1) (funext fun a0 => funext fun a1 => funext fun v0_0_ => L0_eq call k (fun _ _ => none) a0 a1 k v0_0_))
end spec_l13Like
/-! #### spec_DiaOk -/
namespace spec_DiaOk
abbrev R := ((Bool × Unit) × Unit)
def Fm (call : Cl) (k : Nat)  (a0 : (Int × (Int × ((List (Int × (Int × (Int × Unit)))) × Unit)))) : Option R :=
    (call (103 : Nat) s_spec_l13Refs (a0, ())).bind fun (y0 : (Bool × PUnit) × PUnit) =>
    bif y0.fst.fst then
      (call (106 : Nat) s_spec_l13Table (a0, ())).bind fun (y1 : (List Bool × PUnit) × PUnit) =>
        (call (105 : Nat) s_spec_l13Make (a0.fst, y1.fst.fst, ())).bind
          fun (y2 : ((Int × Int × List (Int × Int × Int × PUnit) × PUnit) × PUnit) × PUnit) =>
          (call (104 : Nat) s_spec_l13Like
                (a0, (y2.fst.fst.fst, y2.fst.fst.snd.fst, y2.fst.fst.snd.snd.fst, y2.fst.fst.snd.snd.snd), ())).bind
            fun (y3 : (Bool × PUnit) × PUnit) => some ((y3.fst.fst, ()), ())
    else some ((false, ()), ())
def F (call : Cl) (k : Nat) (a0 : (Int × (Int × ((List (Int × (Int × (Int × Unit)))) × Unit)))) : Option R := Fm call k  a0
theorem F_eq (call : Cl) (k : Nat) (a0 : Y2_1) : bodyK E call n_spec_DiaOk k s_spec_DiaOk (a0, ()) = F call k a0 := by
  kernel_rfl
end spec_DiaOk
/-! #### spec_CountDia -/
namespace spec_CountDia
abbrev R := ((Int × Unit) × Unit)
def S0 (y1 : Y2_3) (v0_0 : Int) (v0_1 : Int) : St := ⟨mkS 25 [(3, .v (.int .i64) v0_0), (4, .ref [4]), (5, .v (.int .i64) v0_1)], [([4], .list 4 .bool (y1.fst.fst))]⟩
def step0 (call : Cl) (k : Nat) (y1 : (((List Bool) × Unit) × Unit))   (r0 : (Int) → (Int) → Option R) (v0_0 : Int) (v0_1 : Int) : Option R :=
    bif decide (v0_1 < (↑(List.length y1.fst.fst) : Int)) then
    bif decide ((0 : Int) ≤ v0_1) && decide (v0_1.toNat < List.length y1.fst.fst) then
      (lget y1.fst.fst v0_1.toNat).bind fun (y2 : Bool) =>
        (call (92 : Nat) s_spec_l5Bit (y2, ())).bind fun (y3 : (Int × PUnit) × PUnit) =>
          r0 (IntKind.i64.wrap (v0_0 + y3.fst.fst)) (IntKind.i64.wrap (v0_1 + (1 : Int)))
    else none
  else some ((v0_0, ()), ())
def L0 (call : Cl) (k : Nat) (y1 : (((List Bool) × Unit) × Unit))  : Nat → (Int) → (Int) → Option R
    | 0, _, _ => none
    | n + 1, v0_0, v0_1 => step0 call k y1   (L0 call k y1  n) v0_0 v0_1
def Fm (call : Cl) (k : Nat) (l0 : ((((List Bool) × Unit) × Unit)) → (Int) → (Int) → Option R) (a0 : (Int × (Int × ((List (Int × (Int × (Int × Unit)))) × Unit)))) : Option R :=
    (call (44 : Nat) s_spec_DiaOk (a0, ())).bind fun (y0 : (Bool × PUnit) × PUnit) =>
    bif !y0.fst.fst then some (((-1 : Int), ()), ())
    else
      (call (106 : Nat) s_spec_l13Table (a0, ())).bind fun (y1 : (List Bool × PUnit) × PUnit) => l0 y1 (0 : Int) (0 : Int)
def F (call : Cl) (k : Nat) (a0 : (Int × (Int × ((List (Int × (Int × (Int × Unit)))) × Unit)))) : Option R := Fm call k (fun y1_ v0_0_ v0_1_ => L0 call k y1_ k v0_0_ v0_1_) a0
theorem L0_eq (call : Cl) (k : Nat) (J : Nat → St → Option R) (a0 : Y2_1) (y1 : Y2_3) : ∀ (n : Nat) (x : Y2_6), siteI E call n_spec_CountDia k s_spec_CountDia (a0, ()) J 0 n (S0 y1 x.1 x.2) = L0 call k y1  n x.1 x.2 := by
  refine loop_eq (E := E) (call := call) (f := n_spec_CountDia) (k := k) (s := s_spec_CountDia) (l := (a0, ())) (J := J) (i := 0) (X := Y2_6) (fun x => S0 y1 x.1 x.2) (fun n x => L0 call k y1  n x.1 x.2) (fun r x => step0 call k y1   (fun v0_0 v0_1 => r (v0_0, v0_1)) x.1 x.2) ?_ ?_ ?_
  · intro x; rfl
  · intro n x; rfl
  intro J0 x
  kernel_rfl
theorem F_eq (call : Cl) (k : Nat) (a0 : Y2_1) : bodyK E call n_spec_CountDia k s_spec_CountDia (a0, ()) = F call k a0 := by
  exact Eq.trans (b := Fm call k (fun y1 v0_0_ v0_1_ => siteI E call n_spec_CountDia k s_spec_CountDia (a0, ()) (fun _ _ => none) 0 k (S0 y1 v0_0_ v0_1_)) a0) (by kernel_rfl) (congrArg (fun l => Fm call k l a0) (funext fun y1 => funext fun v0_0_ => funext fun v0_1_ => L0_eq call k (fun _ _ => none) a0 y1 k (v0_0_, v0_1_)))
end spec_CountDia
/-! #### impl_weight -/
namespace impl_weight
abbrev R := ((Int × Unit) × Unit)
def Fm (call : Cl) (k : Nat)  (a0 : Int) (a1 : Int) : Option R :=
    bif decide (IntKind.i64.wrap (IntKind.i64.wrap (a0 - (1 : Int)) - a1) < (0 : Int)) then none
  else some ((shlI IntKind.i64 (1 : Int) (IntKind.i64.wrap (IntKind.i64.wrap (a0 - (1 : Int)) - a1)), ()), ())
def F (call : Cl) (k : Nat) (a0 : Int) (a1 : Int) : Option R := Fm call k  a0 a1
theorem F_eq (call : Cl) (k : Nat) (a0 : Int) (a1 : Int) : bodyK E call n_impl_weight k s_impl_weight (a0, a1, ()) = F call k a0 a1 := by
  kernel_rfl
end impl_weight
/-! #### impl_sound -/
namespace impl_sound
abbrev R := ((Bool × Unit) × Unit)
def S1 (a0 : Y2_1) (v0_3 : Int) (y0 : Y2_4) (v1_6 : Int) : St := ⟨mkS 107 [(0, .v (.sptr (.pair (.int .i64) (.pair (.int .i64) (.pair (.slc (.pair (.int .i64) (.pair (.int .i64) (.pair (.int .i64) .unit)))) .unit)))) (a0)), (3, .v (.int .i64) (v0_3)), (4, .p [4] [] 0), (50, .v (.slc (.pair (.int .i64) (.pair (.int .i64) (.pair (.int .i64) .unit)))) (a0.snd.snd.fst)), (51, .v (.int .i64) ((↑(List.length a0.snd.snd.fst) : Int))), (52, .v (.int .i64) (v0_3)), (73, .ref [73]), (74, .v (.int .i64) ((↑[y0.snd.fst, y0.snd.snd.fst].length : Int))), (75, .v (.int .i64) v1_6)], [([73], .list 2 (.int .i64) ([y0.snd.fst, y0.snd.snd.fst])), ([4], .box (.v (.pair (.int .i64) (.pair (.int .i64) (.pair (.int .i64) .unit))) ((y0.fst), ((y0.snd.fst), ((y0.snd.snd.fst), ())))))]⟩
def S0 (a0 : Y2_1) (v0_3 : Int) : St := ⟨mkS 107 [(0, .v (.sptr (.pair (.int .i64) (.pair (.int .i64) (.pair (.slc (.pair (.int .i64) (.pair (.int .i64) (.pair (.int .i64) .unit)))) .unit)))) (a0)), (50, .v (.slc (.pair (.int .i64) (.pair (.int .i64) (.pair (.int .i64) .unit)))) (a0.snd.snd.fst)), (51, .v (.int .i64) ((↑(List.length a0.snd.snd.fst) : Int))), (52, .v (.int .i64) v0_3)], []⟩
def step1 (call : Cl) (k : Nat) (a0 : (Int × (Int × ((List (Int × (Int × (Int × Unit)))) × Unit)))) (v0_3 : Int) (y0 : (Int × (Int × (Int × Unit)))) (r0 : (Int) → Option R)  (r1 : (Int) → Option R) (v1_6 : Int) : Option R :=
    bif decide (v1_6 < (↑[y0.snd.fst, y0.snd.snd.fst].length : Int)) then
    bif decide ((0 : Int) ≤ v1_6) && decide (v1_6.toNat < [y0.snd.fst, y0.snd.snd.fst].length) then
      (lget [y0.snd.fst, y0.snd.snd.fst] v1_6.toNat).bind fun (y1 : Int) =>
        bif decide (y1 < (0 : Int)) then some ((false, ()), ())
        else
          bif decide (y1 > IntKind.i64.wrap (v0_3 + (1 : Int))) then some ((false, ()), ())
          else
            bif decide (y1 > (1 : Int)) then
              bif decide ((0 : Int) ≤ IntKind.i64.wrap (y1 - (2 : Int))) then
                (lget a0.snd.snd.fst (IntKind.i64.wrap (y1 - (2 : Int))).toNat).bind fun (y2 : Int × Int × Int × PUnit) =>
                  bif decide (y2.fst ≤ y0.fst) then some ((false, ()), ()) else r1 (IntKind.i64.wrap (v1_6 + (1 : Int)))
              else none
            else r1 (IntKind.i64.wrap (v1_6 + (1 : Int)))
    else none
  else r0 (IntKind.i64.wrap (v0_3 + (1 : Int)))
def L1 (call : Cl) (k : Nat) (a0 : (Int × (Int × ((List (Int × (Int × (Int × Unit)))) × Unit)))) (v0_3 : Int) (y0 : (Int × (Int × (Int × Unit)))) (r0 : (Int) → Option R) : Nat → (Int) → Option R
    | 0, _ => none
    | n + 1, v1_6 => step1 call k a0 v0_3 y0 r0  (L1 call k a0 v0_3 y0 r0 n) v1_6
def step0 (call : Cl) (k : Nat) (a0 : (Int × (Int × ((List (Int × (Int × (Int × Unit)))) × Unit))))  (l1 : ((Int × (Int × ((List (Int × (Int × (Int × Unit)))) × Unit)))) → (Int) → ((Int × (Int × (Int × Unit)))) → (Int) → Option R) (r0 : (Int) → Option R) (v0_3 : Int) : Option R :=
    bif decide (v0_3 < (↑(List.length a0.snd.snd.fst) : Int)) then
    bif decide ((0 : Int) ≤ v0_3) then
      (lget a0.snd.snd.fst v0_3.toNat).bind fun (y0 : Int × Int × Int × PUnit) =>
        bif decide (y0.fst < (0 : Int)) then some ((false, ()), ())
        else bif decide (y0.fst ≥ a0.fst) then some ((false, ()), ()) else l1 a0 v0_3 y0 (0 : Int)
    else none
  else some ((true, ()), ())
def L0 (call : Cl) (k : Nat) (a0 : (Int × (Int × ((List (Int × (Int × (Int × Unit)))) × Unit))))  : Nat → (Int) → Option R
    | 0, _ => none
    | n + 1, v0_3 => step0 call k a0  (fun a0_ v0_3_ y0_ v1_6_ => L1 call k a0_ v0_3_ y0_ (L0 call k a0  n) k v1_6_) (L0 call k a0  n) v0_3
def Fm (call : Cl) (k : Nat) (l0 : ((Int × (Int × ((List (Int × (Int × (Int × Unit)))) × Unit)))) → (Int) → Option R) (a0 : (Int × (Int × ((List (Int × (Int × (Int × Unit)))) × Unit)))) : Option R :=
    bif decide (a0.fst < (0 : Int)) then some ((false, ()), ())
  else
    bif decide (a0.fst > (10 : Int)) then some ((false, ()), ())
    else
      bif decide ((↑(List.length a0.snd.snd.fst) : Int) > (2048 : Int)) then some ((false, ()), ())
      else
        bif decide (a0.snd.fst < (0 : Int)) then some ((false, ()), ())
        else
          bif decide (a0.snd.fst > IntKind.i64.wrap ((↑(List.length a0.snd.snd.fst) : Int) + (1 : Int))) then
            some ((false, ()), ())
          else l0 a0 (0 : Int)
def F (call : Cl) (k : Nat) (a0 : (Int × (Int × ((List (Int × (Int × (Int × Unit)))) × Unit)))) : Option R := Fm call k (fun a0_ v0_3_ => L0 call k a0_ k v0_3_) a0
theorem L1_eq (call : Cl) (k : Nat) (J : Nat → St → Option R) (a0 : Y2_1) (v0_3 : Int) (y0 : Y2_4) : ∀ (n : Nat) (x : (Int)), siteI E call n_impl_sound k s_impl_sound (a0, ()) J 1 n (S1 a0 v0_3 y0 x) = L1 call k a0 v0_3 y0 (fun v0_3_ => J 0 (S0 a0 v0_3_)) n x := by
  refine loop_eq (E := E) (call := call) (f := n_impl_sound) (k := k) (s := s_impl_sound) (l := (a0, ())) (J := J) (i := 1) (X := (Int)) (fun x => S1 a0 v0_3 y0 x) (fun n x => L1 call k a0 v0_3 y0 (fun v0_3_ => J 0 (S0 a0 v0_3_)) n x) (fun r x => step1 call k a0 v0_3 y0 (fun v0_3_ => J 0 (S0 a0 v0_3_))  (fun v1_6 => r v1_6) x) ?_ ?_ ?_
  · intro x; rfl
  · intro n x; rfl
  intro J0 x
  kernel_rfl
theorem L0_eq (call : Cl) (k : Nat) (J : Nat → St → Option R) (a0 : Y2_1) : ∀ (n : Nat) (x : (Int)), siteI E call n_impl_sound k s_impl_sound (a0, ()) J 0 n (S0 a0 x) = L0 call k a0  n x := by
  refine loop_eq (E := E) (call := call) (f := n_impl_sound) (k := k) (s := s_impl_sound) (l := (a0, ())) (J := J) (i := 0) (X := (Int)) (fun x => S0 a0 x) (fun n x => L0 call k a0  n x) (fun r x => step0 call k a0  (fun (a0 : Y2_1) (v0_3 : Int) (y0 : Y2_4) (v1_6_ : Int) => L1 call k a0 v0_3 y0 (fun v0_3_ => r v0_3_) k v1_6_) (fun v0_3 => r v0_3) x) ?_ ?_ ?_
  · intro x; rfl
  · intro n x; rfl
  intro J0 x
  refine Eq.trans (b := step0 call k a0  (fun a0 v0_3 y0 v1_6_ => siteI E call n_impl_sound k s_impl_sound (a0, ()) (upJ 0 J0 J) 1 k (S1 a0 v0_3 y0 v1_6_)) (fun v0_3 => J0 (S0 a0 v0_3)) x) (by kernel_rfl) ?_
  rw [show (fun (a0 : Y2_1) (v0_3 : Int) (y0 : Y2_4) (v1_6_ : Int) => siteI E call n_impl_sound k s_impl_sound (a0, ()) (upJ 0 J0 J) 1 k (S1 a0 v0_3 y0 v1_6_)) = (fun (a0 : Y2_1) (v0_3 : Int) (y0 : Y2_4) (v1_6_ : Int) => L1 call k a0 v0_3 y0 (fun v0_3_ => (upJ 0 J0 J) 0 (S0 a0 v0_3_)) k v1_6_) from funext fun a0 => funext fun v0_3 => funext fun y0 => funext fun v1_6_ => L1_eq call k (upJ 0 J0 J) a0 v0_3 y0 k v1_6_]
  all_goals rfl
theorem F_eq (call : Cl) (k : Nat) (a0 : Y2_1) : bodyK E call n_impl_sound k s_impl_sound (a0, ()) = F call k a0 := by
  exact Eq.trans (b := Fm call k (fun a0 v0_3_ => siteI E call n_impl_sound k s_impl_sound (a0, ()) (fun _ _ => none) 0 k (S0 a0 v0_3_)) a0) (by kernel_rfl) (congrArg (fun l => Fm call k l a0) (funext fun a0 => funext fun v0_3_ => L0_eq call k (fun _ _ => none) a0 k v0_3_))
end impl_sound
/-! #### impl_tableOf -/
namespace impl_tableOf
abbrev R := (((List Bool) × Unit) × Unit)
def S1 (a0 : Y2_1) (v0_2 : Int) (v0_3 : (List Bool)) (v1_2 : Int) : St := ⟨mkS 53 [(0, .v (.sptr (.pair (.int .i64) (.pair (.int .i64) (.pair (.slc (.pair (.int .i64) (.pair (.int .i64) (.pair (.int .i64) .unit)))) .unit)))) (a0)), (3, .ref [3]), (4, .v (.int .i64) (v0_2)), (5, .v (.int .i64) v1_2), (14, .v (.int .i64) ((↑(List.replicate (shlI IntKind.i64 (1 : Int) a0.fst).toNat false).length : Int))), (15, .v (.int .i64) (v0_2))], [([3], .list 4 .bool (v0_3))]⟩
def S0 (a0 : Y2_1) (v0_2 : Int) (v0_3 : (List Bool)) : St := ⟨mkS 53 [(0, .v (.sptr (.pair (.int .i64) (.pair (.int .i64) (.pair (.slc (.pair (.int .i64) (.pair (.int .i64) (.pair (.int .i64) .unit)))) .unit)))) (a0)), (3, .ref [3]), (14, .v (.int .i64) ((↑(List.replicate (shlI IntKind.i64 (1 : Int) a0.fst).toNat false).length : Int))), (15, .v (.int .i64) v0_2)], [([3], .list 4 .bool v0_3)]⟩
def step1 (call : Cl) (k : Nat) (a0 : (Int × (Int × ((List (Int × (Int × (Int × Unit)))) × Unit)))) (v0_2 : Int) (v0_3 : (List Bool)) (r0 : (Int) → ((List Bool)) → Option R)  (r1 : (Int) → Option R) (v1_2 : Int) : Option R :=
    bif decide (v1_2 > (1 : Int)) then
    bif decide ((0 : Int) ≤ IntKind.i64.wrap (v1_2 - (2 : Int))) then
      (lget a0.snd.snd.fst (IntKind.i64.wrap (v1_2 - (2 : Int))).toNat).bind fun (y0 : Int × Int × Int × PUnit) =>
        (call (154 : Nat) s_impl_weight (a0.fst, y0.fst, ())).bind fun (y1 : (Int × PUnit) × PUnit) =>
          bif bitsI BinOp.and IntKind.i64 v0_2 y1.fst.fst != (0 : Int) then r1 y0.snd.snd.fst else r1 y0.snd.fst
    else none
  else
    bif decide ((0 : Int) ≤ v0_2) && decide (v0_2.toNat < v0_3.length) then
      (lget v0_3 v0_2.toNat).bind fun (y2 : Bool) =>
        r0 (IntKind.i64.wrap (v0_2 + (1 : Int))) (v0_3.set v0_2.toNat (v1_2 == (1 : Int)))
    else none
def L1 (call : Cl) (k : Nat) (a0 : (Int × (Int × ((List (Int × (Int × (Int × Unit)))) × Unit)))) (v0_2 : Int) (v0_3 : (List Bool)) (r0 : (Int) → ((List Bool)) → Option R) : Nat → (Int) → Option R
    | 0, _ => none
    | n + 1, v1_2 => step1 call k a0 v0_2 v0_3 r0  (L1 call k a0 v0_2 v0_3 r0 n) v1_2
def step0 (call : Cl) (k : Nat) (a0 : (Int × (Int × ((List (Int × (Int × (Int × Unit)))) × Unit))))  (l1 : ((Int × (Int × ((List (Int × (Int × (Int × Unit)))) × Unit)))) → (Int) → ((List Bool)) → (Int) → Option R) (r0 : (Int) → ((List Bool)) → Option R) (v0_2 : Int) (v0_3 : (List Bool)) : Option R :=
    bif decide (v0_2 < (↑(List.replicate (shlI IntKind.i64 (1 : Int) a0.fst).toNat false).length : Int)) then l1 a0 v0_2 v0_3 a0.snd.fst
  else some ((v0_3, ()), ())
def L0 (call : Cl) (k : Nat) (a0 : (Int × (Int × ((List (Int × (Int × (Int × Unit)))) × Unit))))  : Nat → (Int) → ((List Bool)) → Option R
    | 0, _, _ => none
    | n + 1, v0_2, v0_3 => step0 call k a0  (fun a0_ v0_2_ v0_3_ v1_2_ => L1 call k a0_ v0_2_ v0_3_ (L0 call k a0  n) k v1_2_) (L0 call k a0  n) v0_2 v0_3
def Fm (call : Cl) (k : Nat) (l0 : ((Int × (Int × ((List (Int × (Int × (Int × Unit)))) × Unit)))) → (Int) → ((List Bool)) → Option R) (a0 : (Int × (Int × ((List (Int × (Int × (Int × Unit)))) × Unit)))) : Option R :=
    bif decide (a0.fst < (0 : Int)) then none
  else
    bif
        decide (shlI IntKind.i64 (1 : Int) a0.fst = shlI IntKind.i64 (1 : Int) a0.fst) &&
            decide ((0 : Int) ≤ shlI IntKind.i64 (1 : Int) a0.fst) &&
          decide (shlI IntKind.i64 (1 : Int) a0.fst * (↑ti4.bytes : Int) ≤ (281474976710656 : Int)) then
      l0 a0 (0 : Int) (List.replicate (shlI IntKind.i64 (1 : Int) a0.fst).toNat false)
    else none
def F (call : Cl) (k : Nat) (a0 : (Int × (Int × ((List (Int × (Int × (Int × Unit)))) × Unit)))) : Option R := Fm call k (fun a0_ v0_2_ v0_3_ => L0 call k a0_ k v0_2_ v0_3_) a0
theorem L1_eq (call : Cl) (k : Nat) (J : Nat → St → Option R) (a0 : Y2_1) (v0_2 : Int) (v0_3 : (List Bool)) : ∀ (n : Nat) (x : (Int)), siteI E call n_impl_tableOf k s_impl_tableOf (a0, ()) J 1 n (S1 a0 v0_2 v0_3 x) = L1 call k a0 v0_2 v0_3 (fun v0_2_ v0_3_ => J 0 (S0 a0 v0_2_ v0_3_)) n x := by
  refine loop_eq (E := E) (call := call) (f := n_impl_tableOf) (k := k) (s := s_impl_tableOf) (l := (a0, ())) (J := J) (i := 1) (X := (Int)) (fun x => S1 a0 v0_2 v0_3 x) (fun n x => L1 call k a0 v0_2 v0_3 (fun v0_2_ v0_3_ => J 0 (S0 a0 v0_2_ v0_3_)) n x) (fun r x => step1 call k a0 v0_2 v0_3 (fun v0_2_ v0_3_ => J 0 (S0 a0 v0_2_ v0_3_))  (fun v1_2 => r v1_2) x) ?_ ?_ ?_
  · intro x; rfl
  · intro n x; rfl
  intro J0 x
  kernel_rfl
theorem L0_eq (call : Cl) (k : Nat) (J : Nat → St → Option R) (a0 : Y2_1) : ∀ (n : Nat) (x : Y2_5), siteI E call n_impl_tableOf k s_impl_tableOf (a0, ()) J 0 n (S0 a0 x.1 x.2) = L0 call k a0  n x.1 x.2 := by
  refine loop_eq (E := E) (call := call) (f := n_impl_tableOf) (k := k) (s := s_impl_tableOf) (l := (a0, ())) (J := J) (i := 0) (X := Y2_5) (fun x => S0 a0 x.1 x.2) (fun n x => L0 call k a0  n x.1 x.2) (fun r x => step0 call k a0  (fun (a0 : Y2_1) (v0_2 : Int) (v0_3 : (List Bool)) (v1_2_ : Int) => L1 call k a0 v0_2 v0_3 (fun v0_2_ v0_3_ => r (v0_2_, v0_3_)) k v1_2_) (fun v0_2 v0_3 => r (v0_2, v0_3)) x.1 x.2) ?_ ?_ ?_
  · intro x; rfl
  · intro n x; rfl
  intro J0 x
  refine Eq.trans (b := step0 call k a0  (fun a0 v0_2 v0_3 v1_2_ => siteI E call n_impl_tableOf k s_impl_tableOf (a0, ()) (upJ 0 J0 J) 1 k (S1 a0 v0_2 v0_3 v1_2_)) (fun v0_2 v0_3 => J0 (S0 a0 v0_2 v0_3)) x.1 x.2) (by kernel_rfl) ?_
  rw [show (fun (a0 : Y2_1) (v0_2 : Int) (v0_3 : (List Bool)) (v1_2_ : Int) => siteI E call n_impl_tableOf k s_impl_tableOf (a0, ()) (upJ 0 J0 J) 1 k (S1 a0 v0_2 v0_3 v1_2_)) = (fun (a0 : Y2_1) (v0_2 : Int) (v0_3 : (List Bool)) (v1_2_ : Int) => L1 call k a0 v0_2 v0_3 (fun v0_2_ v0_3_ => (upJ 0 J0 J) 0 (S0 a0 v0_2_ v0_3_)) k v1_2_) from funext fun a0 => funext fun v0_2 => funext fun v0_3 => funext fun v1_2_ => L1_eq call k (upJ 0 J0 J) a0 v0_2 v0_3 k v1_2_]
  all_goals rfl
theorem F_eq (call : Cl) (k : Nat) (a0 : Y2_1) : bodyK E call n_impl_tableOf k s_impl_tableOf (a0, ()) = F call k a0 := by
  exact Eq.trans (b := Fm call k (fun a0 v0_2_ v0_3_ => siteI E call n_impl_tableOf k s_impl_tableOf (a0, ()) (fun _ _ => none) 0 k (S0 a0 v0_2_ v0_3_)) a0) (by kernel_rfl) (congrArg (fun l => Fm call k l a0) (funext fun a0 => funext fun v0_2_ => funext fun v0_3_ => L0_eq call k (fun _ _ => none) a0 k (v0_2_, v0_3_)))
end impl_tableOf
/-! #### impl_smith_forge -/
namespace impl_smith_forge
abbrev R := ((Int × Unit) × (((List (Int × (Int × (Int × Unit)))) × ((List ((Int × (Int × (Int × Unit))) × Int)) × Unit)) × Unit))
def Fm (call : Cl) (k : Nat)  (a0 : ((List (Int × (Int × (Int × Unit)))) × ((List ((Int × (Int × (Int × Unit))) × Int)) × Unit))) (a1 : Int) (a2 : (List Bool)) : Option R :=
    bif (↑a2.length : Int) == (1 : Int) then
    (lget a2 (Int.toNat (0 : Int))).bind fun (y0 : Bool) =>
      (call (93 : Nat) s_impl_truth (y0, ())).bind fun (y1 : (Int × PUnit) × PUnit) =>
        some ((y1.fst.fst, ()), (a0.fst, a0.snd.fst, a0.snd.snd), ())
  else
    bif decide ((0 : Int) ≤ IntKind.i64.wrap ((↑a2.length : Int).tdiv (2 : Int))) then
      bif
          decide ((0 : Nat) ≤ (IntKind.i64.wrap ((↑a2.length : Int).tdiv (2 : Int))).toNat) &&
            decide ((IntKind.i64.wrap ((↑a2.length : Int).tdiv (2 : Int))).toNat ≤ a2.length) then
        (call (153 : Nat) s_impl_smith_forge
              ((a0.fst, a0.snd.fst, a0.snd.snd), IntKind.i64.wrap (a1 + (1 : Int)),
                List.take ((IntKind.i64.wrap ((↑a2.length : Int).tdiv (2 : Int))).toNat - (0 : Nat))
                  (List.drop (0 : Nat) a2),
                ())).bind
          fun
            (y2 :
              (Int × PUnit) ×
                (List (Int × Int × Int × PUnit) × List ((Int × Int × Int × PUnit) × Int) × PUnit) × PUnit) =>
          bif decide ((0 : Int) ≤ IntKind.i64.wrap ((↑a2.length : Int).tdiv (2 : Int))) then
            bif
                decide ((IntKind.i64.wrap ((↑a2.length : Int).tdiv (2 : Int))).toNat ≤ a2.length) &&
                  decide (a2.length ≤ a2.length) then
              (call (153 : Nat) s_impl_smith_forge
                    ((y2.snd.fst.fst, y2.snd.fst.snd.fst, y2.snd.fst.snd.snd), IntKind.i64.wrap (a1 + (1 : Int)),
                      List.take (a2.length - (IntKind.i64.wrap ((↑a2.length : Int).tdiv (2 : Int))).toNat)
                        (List.drop (IntKind.i64.wrap ((↑a2.length : Int).tdiv (2 : Int))).toNat a2),
                      ())).bind
                fun
                  (y3 :
                    (Int × PUnit) ×
                      (List (Int × Int × Int × PUnit) × List ((Int × Int × Int × PUnit) × Int) × PUnit) × PUnit) =>
                bif y2.fst.fst == y3.fst.fst then
                  some ((y2.fst.fst, ()), (y3.snd.fst.fst, y3.snd.fst.snd.fst, y3.snd.fst.snd.snd), ())
                else
                  bif
                      !(mfind ((Ty.int IntKind.i64).pair ((Ty.int IntKind.i64).pair ((Ty.int IntKind.i64).pair Ty.unit)))
                            y3.snd.fst.snd.fst (a1, y2.fst.fst, y3.fst.fst, ())).isSome then
                    bif
                        decide
                          ((List.length y3.snd.fst.fst + [(a1, y2.fst.fst, y3.fst.fst, ())].length) * ti92.bytes ≤
                            (140737488355328 : Nat)) then
                      some
                        ((IntKind.i64.wrap
                              ((↑(y3.snd.fst.fst ++ [(a1, y2.fst.fst, y3.fst.fst, ())]).length : Int) + (1 : Int)),
                            ()),
                          (y3.snd.fst.fst ++ [(a1, y2.fst.fst, y3.fst.fst, ())],
                            mput
                              ((Ty.int IntKind.i64).pair ((Ty.int IntKind.i64).pair ((Ty.int IntKind.i64).pair Ty.unit)))
                              y3.snd.fst.snd.fst (a1, y2.fst.fst, y3.fst.fst, ())
                              (IntKind.i64.wrap
                                ((↑(y3.snd.fst.fst ++ [(a1, y2.fst.fst, y3.fst.fst, ())]).length : Int) + (1 : Int))),
                            y3.snd.fst.snd.snd),
                          ())
                    else none
                  else
                    some
                      (((mfind ((Ty.int IntKind.i64).pair ((Ty.int IntKind.i64).pair ((Ty.int IntKind.i64).pair Ty.unit)))
                                y3.snd.fst.snd.fst (a1, y2.fst.fst, y3.fst.fst, ())).getD
                            (Int.ofNat (nat_lit 0)),
                          ()),
                        (y3.snd.fst.fst, y3.snd.fst.snd.fst, y3.snd.fst.snd.snd), ())
            else none
          else none
      else none
    else none
def F (call : Cl) (k : Nat) (a0 : ((List (Int × (Int × (Int × Unit)))) × ((List ((Int × (Int × (Int × Unit))) × Int)) × Unit))) (a1 : Int) (a2 : (List Bool)) : Option R := Fm call k  a0 a1 a2
theorem F_eq (call : Cl) (k : Nat) (a0 : (Y2_2 × ((List (Y2_4 × Int)) × Unit))) (a1 : Int) (a2 : (List Bool)) : bodyK E call n_impl_smith_forge k s_impl_smith_forge (a0, a1, a2, ()) = F call k a0 a1 a2 := by
  kernel_rfl
end impl_smith_forge
/-! #### impl_diaOf -/
namespace impl_diaOf
abbrev R := (((Int × (Int × ((List (Int × (Int × (Int × Unit)))) × Unit))) × Unit) × Unit)
def Fm (call : Cl) (k : Nat)  (a0 : Int) (a1 : (List Bool)) : Option R :=
    (call (153 : Nat) s_impl_smith_forge (([], [], ()), (0 : Int), a1, ())).bind
    fun
      (y0 : (Int × PUnit) × (List (Int × Int × Int × PUnit) × List ((Int × Int × Int × PUnit) × Int) × PUnit) × PUnit) =>
    some (((a0, y0.fst.fst, y0.snd.fst.fst, ()), ()), ())
def F (call : Cl) (k : Nat) (a0 : Int) (a1 : (List Bool)) : Option R := Fm call k  a0 a1
theorem F_eq (call : Cl) (k : Nat) (a0 : Int) (a1 : (List Bool)) : bodyK E call n_impl_diaOf k s_impl_diaOf (a0, a1, ()) = F call k a0 a1 := by
  kernel_rfl
end impl_diaOf
/-! #### impl_sameDia -/
namespace impl_sameDia
abbrev R := ((Bool × Unit) × Unit)
def S0 (a0 : Y2_1) (a1 : Y2_1) (v0_3 : Int) : St := ⟨mkS 60 [(1, .v (.sptr (.pair (.int .i64) (.pair (.int .i64) (.pair (.slc (.pair (.int .i64) (.pair (.int .i64) (.pair (.int .i64) .unit)))) .unit)))) (a1)), (43, .v (.slc (.pair (.int .i64) (.pair (.int .i64) (.pair (.int .i64) .unit)))) (a0.snd.snd.fst)), (44, .v (.int .i64) ((↑(List.length a0.snd.snd.fst) : Int))), (45, .v (.int .i64) v0_3)], []⟩
def step0 (call : Cl) (k : Nat) (a0 : (Int × (Int × ((List (Int × (Int × (Int × Unit)))) × Unit)))) (a1 : (Int × (Int × ((List (Int × (Int × (Int × Unit)))) × Unit))))   (r0 : (Int) → Option R) (v0_3 : Int) : Option R :=
    bif decide (v0_3 < (↑(List.length a0.snd.snd.fst) : Int)) then
    bif decide ((0 : Int) ≤ v0_3) then
      (lget a0.snd.snd.fst v0_3.toNat).bind fun (y0 : Int × Int × Int × PUnit) =>
        bif decide ((0 : Int) ≤ v0_3) then
          (lget a1.snd.snd.fst v0_3.toNat).bind fun (y1 : Int × Int × Int × PUnit) =>
            bif
                !eqV ((Ty.int IntKind.i64).pair ((Ty.int IntKind.i64).pair ((Ty.int IntKind.i64).pair Ty.unit))) y0
                    y1 then
              some ((false, ()), ())
            else r0 (IntKind.i64.wrap (v0_3 + (1 : Int)))
        else none
    else none
  else some ((true, ()), ())
def L0 (call : Cl) (k : Nat) (a0 : (Int × (Int × ((List (Int × (Int × (Int × Unit)))) × Unit)))) (a1 : (Int × (Int × ((List (Int × (Int × (Int × Unit)))) × Unit))))  : Nat → (Int) → Option R
    | 0, _ => none
    | n + 1, v0_3 => step0 call k a0 a1   (L0 call k a0 a1  n) v0_3
def Fm (call : Cl) (k : Nat) (l0 : ((Int × (Int × ((List (Int × (Int × (Int × Unit)))) × Unit)))) → ((Int × (Int × ((List (Int × (Int × (Int × Unit)))) × Unit)))) → (Int) → Option R) (a0 : (Int × (Int × ((List (Int × (Int × (Int × Unit)))) × Unit)))) (a1 : (Int × (Int × ((List (Int × (Int × (Int × Unit)))) × Unit)))) : Option R :=
    bif a0.fst != a1.fst then some ((false, ()), ())
  else
    bif a0.snd.fst != a1.snd.fst then some ((false, ()), ())
    else
      bif (↑(List.length a0.snd.snd.fst) : Int) != (↑(List.length a1.snd.snd.fst) : Int) then some ((false, ()), ())
      else l0 a0 a1 (0 : Int)
def F (call : Cl) (k : Nat) (a0 : (Int × (Int × ((List (Int × (Int × (Int × Unit)))) × Unit)))) (a1 : (Int × (Int × ((List (Int × (Int × (Int × Unit)))) × Unit)))) : Option R := Fm call k (fun a0_ a1_ v0_3_ => L0 call k a0_ a1_ k v0_3_) a0 a1
theorem L0_eq (call : Cl) (k : Nat) (J : Nat → St → Option R) (a0 : Y2_1) (a1 : Y2_1) : ∀ (n : Nat) (x : (Int)), siteI E call n_impl_sameDia k s_impl_sameDia (a0, a1, ()) J 0 n (S0 a0 a1 x) = L0 call k a0 a1  n x := by
  refine loop_eq (E := E) (call := call) (f := n_impl_sameDia) (k := k) (s := s_impl_sameDia) (l := (a0, a1, ())) (J := J) (i := 0) (X := (Int)) (fun x => S0 a0 a1 x) (fun n x => L0 call k a0 a1  n x) (fun r x => step0 call k a0 a1   (fun v0_3 => r v0_3) x) ?_ ?_ ?_
  · intro x; rfl
  · intro n x; rfl
  intro J0 x
  kernel_rfl
theorem F_eq (call : Cl) (k : Nat) (a0 : Y2_1) (a1 : Y2_1) : bodyK E call n_impl_sameDia k s_impl_sameDia (a0, a1, ()) = F call k a0 a1 := by
  exact Eq.trans (b := Fm call k (fun a0 a1 v0_3_ => siteI E call n_impl_sameDia k s_impl_sameDia (a0, a1, ()) (fun _ _ => none) 0 k (S0 a0 a1 v0_3_)) a0 a1) (by kernel_rfl) (congrArg (fun l => Fm call k l a0 a1) (funext fun a0 => funext fun a1 => funext fun v0_3_ => L0_eq call k (fun _ _ => none) a0 a1 k v0_3_))
end impl_sameDia
/-! #### impl_DiaOk -/
namespace impl_DiaOk
abbrev R := ((Bool × Unit) × Unit)
def Fm (call : Cl) (k : Nat)  (a0 : (Int × (Int × ((List (Int × (Int × (Int × Unit)))) × Unit)))) : Option R :=
    (call (108 : Nat) s_impl_sound (a0, ())).bind fun (y0 : (Bool × PUnit) × PUnit) =>
    bif !y0.fst.fst then some ((false, ()), ())
    else
      (call (110 : Nat) s_impl_tableOf (a0, ())).bind fun (y1 : (List Bool × PUnit) × PUnit) =>
        (call (109 : Nat) s_impl_diaOf (a0.fst, y1.fst.fst, ())).bind
          fun (y2 : ((Int × Int × List (Int × Int × Int × PUnit) × PUnit) × PUnit) × PUnit) =>
          (call (111 : Nat) s_impl_sameDia
                ((y2.fst.fst.fst, y2.fst.fst.snd.fst, y2.fst.fst.snd.snd.fst, y2.fst.fst.snd.snd.snd), a0, ())).bind
            fun (y3 : (Bool × PUnit) × PUnit) => some ((y3.fst.fst, ()), ())
def F (call : Cl) (k : Nat) (a0 : (Int × (Int × ((List (Int × (Int × (Int × Unit)))) × Unit)))) : Option R := Fm call k  a0
theorem F_eq (call : Cl) (k : Nat) (a0 : Y2_1) : bodyK E call n_impl_DiaOk k s_impl_DiaOk (a0, ()) = F call k a0 := by
  kernel_rfl
end impl_DiaOk
/-! #### impl_CountDia -/
namespace impl_CountDia
abbrev R := ((Int × Unit) × Unit)
def S0 (y1 : Y2_3) (v0_0 : Int) (v0_2 : Int) : St := ⟨mkS 21 [(3, .v (.int .i64) v0_0), (9, .ref [9]), (10, .v (.int .i64) ((↑(List.length y1.fst.fst) : Int))), (11, .v (.int .i64) v0_2)], [([9], .list 4 .bool (y1.fst.fst))]⟩
def step0 (call : Cl) (k : Nat) (y1 : (((List Bool) × Unit) × Unit))   (r0 : (Int) → (Int) → Option R) (v0_0 : Int) (v0_2 : Int) : Option R :=
    bif decide (v0_2 < (↑(List.length y1.fst.fst) : Int)) then
    bif decide ((0 : Int) ≤ v0_2) && decide (v0_2.toNat < List.length y1.fst.fst) then
      (lget y1.fst.fst v0_2.toNat).bind fun (y2 : Bool) =>
        (call (93 : Nat) s_impl_truth (y2, ())).bind fun (y3 : (Int × PUnit) × PUnit) =>
          r0 (IntKind.i64.wrap (v0_0 + y3.fst.fst)) (IntKind.i64.wrap (v0_2 + (1 : Int)))
    else none
  else some ((v0_0, ()), ())
def L0 (call : Cl) (k : Nat) (y1 : (((List Bool) × Unit) × Unit))  : Nat → (Int) → (Int) → Option R
    | 0, _, _ => none
    | n + 1, v0_0, v0_2 => step0 call k y1   (L0 call k y1  n) v0_0 v0_2
def Fm (call : Cl) (k : Nat) (l0 : ((((List Bool) × Unit) × Unit)) → (Int) → (Int) → Option R) (a0 : (Int × (Int × ((List (Int × (Int × (Int × Unit)))) × Unit)))) : Option R :=
    (call (46 : Nat) s_impl_DiaOk (a0, ())).bind fun (y0 : (Bool × PUnit) × PUnit) =>
    bif !y0.fst.fst then some (((-1 : Int), ()), ())
    else (call (110 : Nat) s_impl_tableOf (a0, ())).bind fun (y1 : (List Bool × PUnit) × PUnit) => l0 y1 (0 : Int) (0 : Int)
def F (call : Cl) (k : Nat) (a0 : (Int × (Int × ((List (Int × (Int × (Int × Unit)))) × Unit)))) : Option R := Fm call k (fun y1_ v0_0_ v0_2_ => L0 call k y1_ k v0_0_ v0_2_) a0
theorem L0_eq (call : Cl) (k : Nat) (J : Nat → St → Option R) (a0 : Y2_1) (y1 : Y2_3) : ∀ (n : Nat) (x : Y2_6), siteI E call n_impl_CountDia k s_impl_CountDia (a0, ()) J 0 n (S0 y1 x.1 x.2) = L0 call k y1  n x.1 x.2 := by
  refine loop_eq (E := E) (call := call) (f := n_impl_CountDia) (k := k) (s := s_impl_CountDia) (l := (a0, ())) (J := J) (i := 0) (X := Y2_6) (fun x => S0 y1 x.1 x.2) (fun n x => L0 call k y1  n x.1 x.2) (fun r x => step0 call k y1   (fun v0_0 v0_2 => r (v0_0, v0_2)) x.1 x.2) ?_ ?_ ?_
  · intro x; rfl
  · intro n x; rfl
  intro J0 x
  kernel_rfl
theorem F_eq (call : Cl) (k : Nat) (a0 : Y2_1) : bodyK E call n_impl_CountDia k s_impl_CountDia (a0, ()) = F call k a0 := by
  exact Eq.trans (b := Fm call k (fun y1 v0_0_ v0_2_ => siteI E call n_impl_CountDia k s_impl_CountDia (a0, ()) (fun _ _ => none) 0 k (S0 y1 v0_0_ v0_2_)) a0) (by kernel_rfl) (congrArg (fun l => Fm call k l a0) (funext fun y1 => funext fun v0_0_ => funext fun v0_2_ => L0_eq call k (fun _ _ => none) a0 y1 k (v0_0_, v0_2_)))
end impl_CountDia
end Go.Proofs.Ytcmgjdmhemfecaa.Pf
