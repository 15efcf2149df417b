/- Printed texts: what the reading of these functions is. No condition. -/
import Derived.Test.YtcmgjdmhemfecaaPvEnv
import Derived.KernelRfl
set_option linter.unusedVariables false
namespace Go.Proofs.Ytcmgjdmhemfecaa.Pf
open Go Go.Pv
abbrev YE_0 := (Int × ((List (List Int)) × Unit))
/-! #### spec_l14DrawKeep -/
namespace spec_l14DrawKeep
abbrev R := (((List Int) × Unit) × (((List Int) × (Int × (Int × Unit))) × Unit))
def S0 (a1 : YE_0) (v0_0 : Int) (v0_1 : (List Int)) (v0_4 : (List Int)) (v0_5 : Int) (v0_6 : Int) : St := ⟨mkS 35 [(0, .p [0] [] 0), (3, .p [3] [] 0), (5, .ref [5]), (6, .v (.int .i64) v0_0)], [([5], .list 2 (.int .i64) v0_1), ([3], .box (.v (.pair (.int .i64) (.pair (.slc (.slc (.int .i64))) .unit)) ((a1.fst), ((a1.snd.fst), ())))), ([0], .box (.v (.pair (.slc (.int .u8)) (.pair (.int .i64) (.pair (.int .i64) .unit))) (v0_4, (v0_5, (v0_6, ())))))]⟩
def step0 (call : Cl) (k : Nat) (a1 : (Int × ((List (List Int)) × Unit)))   (r0 : (Int) → ((List Int)) → ((List Int)) → (Int) → (Int) → Option R) (v0_0 : Int) (v0_1 : (List Int)) (v0_4 : (List Int)) (v0_5 : Int) (v0_6 : Int) : Option R :=
    bif decide (v0_0 > (0 : Int)) then
    bif decide (a1.fst > (0 : Int)) then
      (call (164 : Nat) s_spec_l1Min (a1.fst, (300 : Int), ())).bind fun (y1 : (Int × PUnit) × PUnit) =>
        (call (144 : Nat) s_spec_l1Below ((v0_4, v0_5, v0_6, ()), y1.fst.fst, ())).bind
          fun (y2 : (Int × PUnit) × (List Int × Int × Int × PUnit) × PUnit) =>
          (call (149 : Nat) s_spec_l2With (v0_1, IntKind.i64.wrap ((1 : Int) + y2.fst.fst), ())).bind
            fun (y3 : (List Int × PUnit) × PUnit) =>
            r0 (IntKind.i64.wrap (v0_0 - (1 : Int))) y3.fst.fst y2.snd.fst.fst y2.snd.fst.snd.fst y2.snd.fst.snd.snd.fst
    else
      (call (131 : Nat) s_spec_l1Once ((v0_4, v0_5, v0_6, ()), (12 : Int), ())).bind
        fun (y4 : (Bool × PUnit) × (List Int × Int × Int × PUnit) × PUnit) =>
        bif y4.fst.fst then
          (call (157 : Nat) s_spec_l1From
                ((y4.snd.fst.fst, y4.snd.fst.snd.fst, y4.snd.fst.snd.snd.fst, y4.snd.fst.snd.snd.snd), (0 : Int),
                  (9 : Int), ())).bind
            fun (y5 : (Int × PUnit) × (List Int × Int × Int × PUnit) × PUnit) =>
            bif decide ((v0_1.length + [y5.fst.fst].length) * ti2.bytes ≤ (140737488355328 : Nat)) then
              some
                ((v0_1 ++ [y5.fst.fst], ()),
                  (y5.snd.fst.fst, y5.snd.fst.snd.fst, y5.snd.fst.snd.snd.fst, y5.snd.fst.snd.snd.snd), ())
            else none
        else some ((v0_1, ()), (y4.snd.fst.fst, y4.snd.fst.snd.fst, y4.snd.fst.snd.snd.fst, y4.snd.fst.snd.snd.snd), ())
  else
    (call (131 : Nat) s_spec_l1Once ((v0_4, v0_5, v0_6, ()), (12 : Int), ())).bind
      fun (y6 : (Bool × PUnit) × (List Int × Int × Int × PUnit) × PUnit) =>
      bif y6.fst.fst then
        (call (157 : Nat) s_spec_l1From
              ((y6.snd.fst.fst, y6.snd.fst.snd.fst, y6.snd.fst.snd.snd.fst, y6.snd.fst.snd.snd.snd), (0 : Int), (9 : Int),
                ())).bind
          fun (y7 : (Int × PUnit) × (List Int × Int × Int × PUnit) × PUnit) =>
          bif decide ((v0_1.length + [y7.fst.fst].length) * ti2.bytes ≤ (140737488355328 : Nat)) then
            some
              ((v0_1 ++ [y7.fst.fst], ()),
                (y7.snd.fst.fst, y7.snd.fst.snd.fst, y7.snd.fst.snd.snd.fst, y7.snd.fst.snd.snd.snd), ())
          else none
      else some ((v0_1, ()), (y6.snd.fst.fst, y6.snd.fst.snd.fst, y6.snd.fst.snd.snd.fst, y6.snd.fst.snd.snd.snd), ())
def L0 (call : Cl) (k : Nat) (a1 : (Int × ((List (List Int)) × Unit)))  : Nat → (Int) → ((List Int)) → ((List Int)) → (Int) → (Int) → Option R
    | 0, _, _, _, _, _ => none
    | n + 1, v0_0, v0_1, v0_4, v0_5, v0_6 => step0 call k a1   (L0 call k a1  n) v0_0 v0_1 v0_4 v0_5 v0_6
def Fm (call : Cl) (k : Nat) (l0 : ((Int × ((List (List Int)) × Unit))) → (Int) → ((List Int)) → ((List Int)) → (Int) → (Int) → Option R) (a0 : ((List Int) × (Int × (Int × Unit)))) (a1 : (Int × ((List (List Int)) × Unit))) : Option R :=
    (call (144 : Nat) s_spec_l1Below ((a0.fst, a0.snd.fst, a0.snd.snd.fst, a0.snd.snd.snd), (6 : Int), ())).bind
    fun (y0 : (Int × PUnit) × (List Int × Int × Int × PUnit) × PUnit) =>
    l0 a1 y0.fst.fst [] y0.snd.fst.fst y0.snd.fst.snd.fst y0.snd.fst.snd.snd.fst
def F (call : Cl) (k : Nat) (a0 : ((List Int) × (Int × (Int × Unit)))) (a1 : (Int × ((List (List Int)) × Unit))) : Option R := Fm call k (fun a1_ v0_0_ v0_1_ v0_4_ v0_5_ v0_6_ => L0 call k a1_ k v0_0_ v0_1_ v0_4_ v0_5_ v0_6_) a0 a1
theorem L0_eq (call : Cl) (k : Nat) (J : Nat → St → Option R) (a0 : ((List Int) × (Int × (Int × Unit)))) (a1 : YE_0) : ∀ (n : Nat) (x : ((Int) × ((List Int)) × ((List Int)) × (Int) × (Int))), siteI E call n_spec_l14DrawKeep k s_spec_l14DrawKeep (a0, a1, ()) J 0 n (S0 a1 x.1 x.2.1 x.2.2.1 x.2.2.2.1 x.2.2.2.2) = L0 call k a1  n x.1 x.2.1 x.2.2.1 x.2.2.2.1 x.2.2.2.2 := by
  refine loop_eq (E := E) (call := call) (f := n_spec_l14DrawKeep) (k := k) (s := s_spec_l14DrawKeep) (l := (a0, a1, ())) (J := J) (i := 0) (X := ((Int) × ((List Int)) × ((List Int)) × (Int) × (Int))) (fun x => S0 a1 x.1 x.2.1 x.2.2.1 x.2.2.2.1 x.2.2.2.2) (fun n x => L0 call k a1  n x.1 x.2.1 x.2.2.1 x.2.2.2.1 x.2.2.2.2) (fun r x => step0 call k a1   (fun v0_0 v0_1 v0_4 v0_5 v0_6 => r (v0_0, v0_1, v0_4, v0_5, v0_6)) x.1 x.2.1 x.2.2.1 x.2.2.2.1 x.2.2.2.2) ?_ ?_ ?_
  · intro x; rfl
  · intro n x; rfl
  intro J0 x
  kernel_rfl
theorem F_eq (call : Cl) (k : Nat) (a0 : ((List Int) × (Int × (Int × Unit)))) (a1 : YE_0) : bodyK E call n_spec_l14DrawKeep k s_spec_l14DrawKeep (a0, a1, ()) = F call k a0 a1 := by
  exact Eq.trans (b := Fm call k (fun a1 v0_0_ v0_1_ v0_4_ v0_5_ v0_6_ => siteI E call n_spec_l14DrawKeep k s_spec_l14DrawKeep (a0, a1, ()) (fun _ _ => none) 0 k (S0 a1 v0_0_ v0_1_ v0_4_ v0_5_ v0_6_)) a0 a1) (by kernel_rfl) (congrArg (fun l => Fm call k l a0 a1) (funext fun a1 => funext fun v0_0_ => funext fun v0_1_ => funext fun v0_4_ => funext fun v0_5_ => funext fun v0_6_ => L0_eq call k (fun _ _ => none) a0 a1 k (v0_0_, v0_1_, v0_4_, v0_5_, v0_6_)))
end spec_l14DrawKeep
/-! #### spec_DrawPatternsOf -/
namespace spec_DrawPatternsOf
abbrev R := (((Int × ((List (List Int)) × Unit)) × ((List Int) × Unit)) × Unit)
def Fm (call : Cl) (k : Nat)  (a0 : (List Int)) : Option R :=
    (call (129 : Nat) s_spec_l1New (a0, ())).bind fun (y0 : ((List Int × Int × Int × PUnit) × PUnit) × PUnit) =>
    (call (139 : Nat) s_spec_l14DrawAny
          ((y0.fst.fst.fst, y0.fst.fst.snd.fst, y0.fst.fst.snd.snd.fst, y0.fst.fst.snd.snd.snd), ())).bind
      fun (y1 : ((Int × List (List Int) × PUnit) × PUnit) × (List Int × Int × Int × PUnit) × PUnit) =>
      (call (131 : Nat) s_spec_l1Once
            ((y1.snd.fst.fst, y1.snd.fst.snd.fst, y1.snd.fst.snd.snd.fst, y1.snd.fst.snd.snd.snd), (2 : Int), ())).bind
        fun (y2 : (Bool × PUnit) × (List Int × Int × Int × PUnit) × PUnit) =>
        bif y2.fst.fst then
          (call (33 : Nat) s_spec_CnfOk (y1.fst.fst, ())).bind fun (y3 : (Bool × PUnit) × PUnit) =>
            bif y3.fst.fst then
              (call (37 : Nat) s_spec_UsedIn (y1.fst.fst, ())).bind fun (y4 : (List Int × PUnit) × PUnit) =>
                bif decide ((↑(List.length y4.fst.fst) : Int) > (0 : Int)) then
                  (call (144 : Nat) s_spec_l1Below
                        ((y2.snd.fst.fst, y2.snd.fst.snd.fst, y2.snd.fst.snd.snd.fst, y2.snd.fst.snd.snd.snd),
                          (↑(List.length y4.fst.fst) : Int), ())).bind
                    fun (y5 : (Int × PUnit) × (List Int × Int × Int × PUnit) × PUnit) =>
                    bif decide ((0 : Int) ≤ y5.fst.fst) then
                      bif
                          decide (Int.toNat y5.fst.fst ≤ List.length y4.fst.fst) &&
                            decide (List.length y4.fst.fst ≤ List.length y4.fst.fst) then
                        bif
                            decide
                              (Int.toNat y5.fst.fst + (List.length y4.fst.fst - Int.toNat y5.fst.fst) ≤
                                List.length y4.fst.fst) then
                          some
                            ((y1.fst.fst,
                                List.take (List.length y4.fst.fst - Int.toNat y5.fst.fst)
                                  (List.drop (Int.toNat y5.fst.fst) y4.fst.fst),
                                ()),
                              ())
                        else none
                      else none
                    else none
                else
                  (call (145 : Nat) s_spec_l14DrawKeep
                        ((y2.snd.fst.fst, y2.snd.fst.snd.fst, y2.snd.fst.snd.snd.fst, y2.snd.fst.snd.snd.snd), y1.fst.fst,
                          ())).bind
                    fun (y6 : (List Int × PUnit) × (List Int × Int × Int × PUnit) × PUnit) =>
                    some ((y1.fst.fst, y6.fst.fst, ()), ())
            else
              (call (145 : Nat) s_spec_l14DrawKeep
                    ((y2.snd.fst.fst, y2.snd.fst.snd.fst, y2.snd.fst.snd.snd.fst, y2.snd.fst.snd.snd.snd), y1.fst.fst,
                      ())).bind
                fun (y7 : (List Int × PUnit) × (List Int × Int × Int × PUnit) × PUnit) =>
                some ((y1.fst.fst, y7.fst.fst, ()), ())
        else
          (call (145 : Nat) s_spec_l14DrawKeep
                ((y2.snd.fst.fst, y2.snd.fst.snd.fst, y2.snd.fst.snd.snd.fst, y2.snd.fst.snd.snd.snd), y1.fst.fst,
                  ())).bind
            fun (y8 : (List Int × PUnit) × (List Int × Int × Int × PUnit) × PUnit) =>
            some ((y1.fst.fst, y8.fst.fst, ()), ())
def F (call : Cl) (k : Nat) (a0 : (List Int)) : Option R := Fm call k  a0
theorem F_eq (call : Cl) (k : Nat) (a0 : (List Int)) : bodyK E call n_spec_DrawPatternsOf k s_spec_DrawPatternsOf (a0, ()) = F call k a0 := by
  kernel_rfl
end spec_DrawPatternsOf
/-! #### spec_CmpNat -/
namespace spec_CmpNat
abbrev R := ((Int × Unit) × Unit)
def S0 (a0 : (List Int)) (a1 : (List Int)) (v0_2 : Int) : St := ⟨mkS 39 [(0, .v (.slc (.int .i64)) (a0)), (1, .v (.slc (.int .i64)) (a1)), (6, .v (.int .i64) v0_2)], []⟩
def step0 (call : Cl) (k : Nat) (a0 : (List Int)) (a1 : (List Int))   (r0 : (Int) → Option R) (v0_2 : Int) : Option R :=
    bif decide (v0_2 ≥ (0 : Int)) then
    (call (141 : Nat) s_spec_l1Limb (a0, v0_2, ())).bind fun (y1 : (Int × PUnit) × PUnit) =>
      (call (141 : Nat) s_spec_l1Limb (a1, v0_2, ())).bind fun (y2 : (Int × PUnit) × PUnit) =>
        bif decide (y1.fst.fst < y2.fst.fst) then some (((-1 : Int), ()), ())
        else
          (call (141 : Nat) s_spec_l1Limb (a0, v0_2, ())).bind fun (y3 : (Int × PUnit) × PUnit) =>
            (call (141 : Nat) s_spec_l1Limb (a1, v0_2, ())).bind fun (y4 : (Int × PUnit) × PUnit) =>
              bif decide (y3.fst.fst > y4.fst.fst) then some (((1 : Int), ()), ())
              else r0 (IntKind.i64.wrap (v0_2 - (1 : Int)))
  else some (((0 : Int), ()), ())
def L0 (call : Cl) (k : Nat) (a0 : (List Int)) (a1 : (List Int))  : Nat → (Int) → Option R
    | 0, _ => none
    | n + 1, v0_2 => step0 call k a0 a1   (L0 call k a0 a1  n) v0_2
def Fm (call : Cl) (k : Nat) (l0 : ((List Int)) → ((List Int)) → (Int) → Option R) (a0 : (List Int)) (a1 : (List Int)) : Option R :=
    (call (140 : Nat) s_spec_l1Both (a0, a1, ())).bind fun (y0 : (Bool × PUnit) × PUnit) =>
    bif !y0.fst.fst then some (((2 : Int), ()), ())
    else
      bif decide ((↑a1.length : Int) > (↑a0.length : Int)) then l0 a0 a1 (IntKind.i64.wrap ((↑a1.length : Int) - (1 : Int)))
      else l0 a0 a1 (IntKind.i64.wrap ((↑a0.length : Int) - (1 : Int)))
def F (call : Cl) (k : Nat) (a0 : (List Int)) (a1 : (List Int)) : Option R := Fm call k (fun a0_ a1_ v0_2_ => L0 call k a0_ a1_ k v0_2_) a0 a1
theorem L0_eq (call : Cl) (k : Nat) (J : Nat → St → Option R) (a0 : (List Int)) (a1 : (List Int)) : ∀ (n : Nat) (x : (Int)), siteI E call n_spec_CmpNat k s_spec_CmpNat (a0, a1, ()) J 0 n (S0 a0 a1 x) = L0 call k a0 a1  n x := by
  refine loop_eq (E := E) (call := call) (f := n_spec_CmpNat) (k := k) (s := s_spec_CmpNat) (l := (a0, a1, ())) (J := J) (i := 0) (X := (Int)) (fun x => S0 a0 a1 x) (fun n x => L0 call k a0 a1  n x) (fun r x => step0 call k a0 a1   (fun v0_2 => r v0_2) x) ?_ ?_ ?_
  · intro x; rfl
  · intro n x; rfl
  intro J0 x
  kernel_rfl
theorem F_eq (call : Cl) (k : Nat) (a0 : (List Int)) (a1 : (List Int)) : bodyK E call n_spec_CmpNat k s_spec_CmpNat (a0, a1, ()) = F call k a0 a1 := by
  exact Eq.trans (b := Fm call k (fun a0 a1 v0_2_ => siteI E call n_spec_CmpNat k s_spec_CmpNat (a0, a1, ()) (fun _ _ => none) 0 k (S0 a0 a1 v0_2_)) a0 a1) (by kernel_rfl) (congrArg (fun l => Fm call k l a0 a1) (funext fun a0 => funext fun a1 => funext fun v0_2_ => L0_eq call k (fun _ _ => none) a0 a1 k v0_2_))
end spec_CmpNat
end Go.Proofs.Ytcmgjdmhemfecaa.Pf
