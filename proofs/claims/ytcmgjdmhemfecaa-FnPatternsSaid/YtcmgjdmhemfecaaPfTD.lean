/- Printed texts: what the reading of these functions is. No condition. -/
import Derived.Test.YtcmgjdmhemfecaaPvEnv
import Derived.KernelRfl
set_option linter.unusedVariables false
namespace Go.Proofs.Ytcmgjdmhemfecaa.Pf
open Go Go.Pv
abbrev YD_0 := ((Int) × ((List (List Int))) × ((List Int)) × (Int) × (Int))
abbrev YD_1 := ((Int) × ((List Int)) × ((List Int)) × (Int) × (Int))
abbrev YD_2 := ((List Int) × (Int × (Int × Unit)))
abbrev YD_3 := (List (List Int))
/-! #### spec_l14Draw -/
namespace spec_l14Draw
abbrev R := (((Int × ((List (List Int)) × Unit)) × Unit) × (((List Int) × (Int × (Int × Unit))) × Unit))
def S3 (v0_1 : Int) (v0_2 : YD_3) (v0_3 : Int) (v1_1 : (List Int)) (v2_0 : Int) (v2_2 : YD_3) (v3_1 : Int) (v3_2 : (List Int)) (v3_8 : (List Int)) (v3_9 : Int) (v3_10 : Int) : St := ⟨mkS 91 [(0, .p [0] [] 0), (2, .p [2] [] 0), (3, .p [3] [] 0), (4, .ref [4]), (6, .v (.int .i64) (v2_0)), (7, .ref [7]), (8, .v (.int .i64) v3_1)], [([7], .list 2 (.int .i64) v3_2), ([4], .list 2 (.int .i64) (v1_1)), ([3, 5, 1, 0], .list 41 (.own 2 (.int .i64)) (v2_2)), ([3], .box (.pr (.v (.int .i64) (v0_1)) (.pr (.ref [3, 5, 1, 0]) (.v .unit ())))), ([2, 5, 1, 0], .list 41 (.own 2 (.int .i64)) (v0_2)), ([2], .box (.pr (.v (.int .i64) (v0_3)) (.pr (.ref [2, 5, 1, 0]) (.v .unit ())))), ([0], .box (.v (.pair (.slc (.int .u8)) (.pair (.int .i64) (.pair (.int .i64) .unit))) (v3_8, (v3_9, (v3_10, ())))))]⟩
def S2 (v0_1 : Int) (v0_2 : YD_3) (v0_3 : Int) (v1_1 : (List Int)) (v2_0 : Int) (v2_2 : YD_3) (v2_6 : (List Int)) (v2_7 : Int) (v2_8 : Int) : St := ⟨mkS 91 [(0, .p [0] [] 0), (2, .p [2] [] 0), (3, .p [3] [] 0), (4, .ref [4]), (6, .v (.int .i64) v2_0)], [([4], .list 2 (.int .i64) (v1_1)), ([3, 5, 1, 0], .list 41 (.own 2 (.int .i64)) v2_2), ([3], .box (.pr (.v (.int .i64) (v0_1)) (.pr (.ref [3, 5, 1, 0]) (.v .unit ())))), ([2, 5, 1, 0], .list 41 (.own 2 (.int .i64)) (v0_2)), ([2], .box (.pr (.v (.int .i64) (v0_3)) (.pr (.ref [2, 5, 1, 0]) (.v .unit ())))), ([0], .box (.v (.pair (.slc (.int .u8)) (.pair (.int .i64) (.pair (.int .i64) .unit))) (v2_6, (v2_7, (v2_8, ())))))]⟩
def S1 (v0_0 : YD_3) (v0_1 : Int) (v0_2 : YD_3) (v0_3 : Int) (v1_0 : Int) (v1_1 : (List Int)) (v1_6 : (List Int)) (v1_7 : Int) (v1_8 : Int) : St := ⟨mkS 91 [(0, .p [0] [] 0), (2, .p [2] [] 0), (3, .p [3] [] 0), (4, .ref [4]), (5, .v (.int .i64) v1_0)], [([4], .list 2 (.int .i64) v1_1), ([3, 5, 1, 0], .list 41 (.own 2 (.int .i64)) (v0_0)), ([3], .box (.pr (.v (.int .i64) (v0_1)) (.pr (.ref [3, 5, 1, 0]) (.v .unit ())))), ([2, 5, 1, 0], .list 41 (.own 2 (.int .i64)) (v0_2)), ([2], .box (.pr (.v (.int .i64) (v0_3)) (.pr (.ref [2, 5, 1, 0]) (.v .unit ())))), ([0], .box (.v (.pair (.slc (.int .u8)) (.pair (.int .i64) (.pair (.int .i64) .unit))) (v1_6, (v1_7, (v1_8, ())))))]⟩
def S0 (v0_0 : YD_3) (v0_1 : Int) (v0_2 : YD_3) (v0_3 : Int) (v0_4 : (List Int)) (v0_5 : Int) (v0_6 : Int) : St := ⟨mkS 91 [(0, .p [0] [] 0), (2, .p [2] [] 0), (3, .p [3] [] 0)], [([3, 5, 1, 0], .list 41 (.own 2 (.int .i64)) v0_0), ([3], .box (.pr (.v (.int .i64) v0_1) (.pr (.ref [3, 5, 1, 0]) (.v .unit ())))), ([2, 5, 1, 0], .list 41 (.own 2 (.int .i64)) v0_2), ([2], .box (.pr (.v (.int .i64) v0_3) (.pr (.ref [2, 5, 1, 0]) (.v .unit ())))), ([0], .box (.v (.pair (.slc (.int .u8)) (.pair (.int .i64) (.pair (.int .i64) .unit))) (v0_4, (v0_5, (v0_6, ())))))]⟩
def step3 (call : Cl) (k : Nat) (v1_1 : (List Int)) (v2_0 : Int) (v2_2 : (List (List Int))) (r2 : (Int) → ((List (List Int))) → ((List Int)) → (Int) → (Int) → Option R)  (r3 : (Int) → ((List Int)) → ((List Int)) → (Int) → (Int) → Option R) (v3_1 : Int) (v3_2 : (List Int)) (v3_8 : (List Int)) (v3_9 : Int) (v3_10 : Int) : Option R :=
    bif decide (v3_1 > (0 : Int)) then
    (call (144 : Nat) s_spec_l1Below ((v3_8, v3_9, v3_10, ()), (↑v1_1.length : Int), ())).bind
      fun (y8 : (Int × PUnit) × (List Int × Int × Int × PUnit) × PUnit) =>
      bif decide ((0 : Int) ≤ y8.fst.fst) && decide (Int.toNat y8.fst.fst < v1_1.length) then
        (lget v1_1 (Int.toNat y8.fst.fst)).bind fun (y9 : Int) =>
          (call (137 : Nat) s_spec_l2In (v3_2, y9, ())).bind fun (y10 : (Bool × PUnit) × PUnit) =>
            bif !y10.fst.fst then
              (call (137 : Nat) s_spec_l2In (v3_2, IntKind.i64.wrap ((0 : Int) - y9), ())).bind
                fun (y11 : (Bool × PUnit) × PUnit) =>
                bif !y11.fst.fst then
                  (call (131 : Nat) s_spec_l1Once
                        ((y8.snd.fst.fst, y8.snd.fst.snd.fst, y8.snd.fst.snd.snd.fst, y8.snd.fst.snd.snd.snd), (2 : Int),
                          ())).bind
                    fun (y12 : (Bool × PUnit) × (List Int × Int × Int × PUnit) × PUnit) =>
                    bif y12.fst.fst then
                      bif
                          decide
                            ((v3_2.length + [IntKind.i64.wrap ((0 : Int) - y9)].length) * ti2.bytes ≤
                              (140737488355328 : Nat)) then
                        r3 (IntKind.i64.wrap (v3_1 - (1 : Int))) (v3_2 ++ [IntKind.i64.wrap ((0 : Int) - y9)])
                          y12.snd.fst.fst y12.snd.fst.snd.fst y12.snd.fst.snd.snd.fst
                      else none
                    else
                      bif decide ((v3_2.length + [y9].length) * ti2.bytes ≤ (140737488355328 : Nat)) then
                        r3 (IntKind.i64.wrap (v3_1 - (1 : Int))) (v3_2 ++ [y9]) y12.snd.fst.fst y12.snd.fst.snd.fst
                          y12.snd.fst.snd.snd.fst
                      else none
                else
                  r3 (IntKind.i64.wrap (v3_1 - (1 : Int))) v3_2 y8.snd.fst.fst y8.snd.fst.snd.fst y8.snd.fst.snd.snd.fst
            else r3 (IntKind.i64.wrap (v3_1 - (1 : Int))) v3_2 y8.snd.fst.fst y8.snd.fst.snd.fst y8.snd.fst.snd.snd.fst
      else none
  else
    bif decide ((v2_2.length + [v3_2].length) * ti41.bytes ≤ (140737488355328 : Nat)) then
      r2 (IntKind.i64.wrap (v2_0 - (1 : Int))) (v2_2 ++ [v3_2]) v3_8 v3_9 v3_10
    else none
def L3 (call : Cl) (k : Nat) (v1_1 : (List Int)) (v2_0 : Int) (v2_2 : (List (List Int))) (r2 : (Int) → ((List (List Int))) → ((List Int)) → (Int) → (Int) → Option R) : Nat → (Int) → ((List Int)) → ((List Int)) → (Int) → (Int) → Option R
    | 0, _, _, _, _, _ => none
    | n + 1, v3_1, v3_2, v3_8, v3_9, v3_10 => step3 call k v1_1 v2_0 v2_2 r2  (L3 call k v1_1 v2_0 v2_2 r2 n) v3_1 v3_2 v3_8 v3_9 v3_10
def step2 (call : Cl) (k : Nat) (v0_1 : Int) (v1_1 : (List Int))  (l3 : ((List Int)) → (Int) → ((List (List Int))) → (Int) → ((List Int)) → ((List Int)) → (Int) → (Int) → Option R) (r2 : (Int) → ((List (List Int))) → ((List Int)) → (Int) → (Int) → Option R) (v2_0 : Int) (v2_2 : (List (List Int))) (v2_6 : (List Int)) (v2_7 : Int) (v2_8 : Int) : Option R :=
    bif decide (v2_0 > (0 : Int)) then
    bif decide (v0_1 > (0 : Int)) then
      (call (144 : Nat) s_spec_l1Below ((v2_6, v2_7, v2_8, ()), (3 : Int), ())).bind
        fun (y7 : (Int × PUnit) × (List Int × Int × Int × PUnit) × PUnit) =>
        l3 v1_1 v2_0 v2_2 (IntKind.i64.wrap ((1 : Int) + y7.fst.fst)) [] y7.snd.fst.fst y7.snd.fst.snd.fst y7.snd.fst.snd.snd.fst
    else some (((v0_1, v2_2, ()), ()), (v2_6, v2_7, v2_8, ()), ())
  else some (((v0_1, v2_2, ()), ()), (v2_6, v2_7, v2_8, ()), ())
def L2 (call : Cl) (k : Nat) (v0_1 : Int) (v1_1 : (List Int))  : Nat → (Int) → ((List (List Int))) → ((List Int)) → (Int) → (Int) → Option R
    | 0, _, _, _, _, _ => none
    | n + 1, v2_0, v2_2, v2_6, v2_7, v2_8 => step2 call k v0_1 v1_1  (fun v1_1_ v2_0_ v2_2_ v3_1_ v3_2_ v3_8_ v3_9_ v3_10_ => L3 call k v1_1_ v2_0_ v2_2_ (L2 call k v0_1 v1_1  n) k v3_1_ v3_2_ v3_8_ v3_9_ v3_10_) (L2 call k v0_1 v1_1  n) v2_0 v2_2 v2_6 v2_7 v2_8
def step1 (call : Cl) (k : Nat) (v0_0 : (List (List Int))) (v0_1 : Int)  (l2 : (Int) → ((List Int)) → (Int) → ((List (List Int))) → ((List Int)) → (Int) → (Int) → Option R) (r1 : (Int) → ((List Int)) → ((List Int)) → (Int) → (Int) → Option R) (v1_0 : Int) (v1_1 : (List Int)) (v1_6 : (List Int)) (v1_7 : Int) (v1_8 : Int) : Option R :=
    bif decide (v1_0 > (0 : Int)) then
    bif decide (v0_1 > (0 : Int)) then
      (call (144 : Nat) s_spec_l1Below ((v1_6, v1_7, v1_8, ()), v0_1, ())).bind
        fun (y4 : (Int × PUnit) × (List Int × Int × Int × PUnit) × PUnit) =>
        (call (149 : Nat) s_spec_l2With (v1_1, IntKind.i64.wrap ((1 : Int) + y4.fst.fst), ())).bind
          fun (y5 : (List Int × PUnit) × PUnit) =>
          r1 (IntKind.i64.wrap (v1_0 - (1 : Int))) y5.fst.fst y4.snd.fst.fst y4.snd.fst.snd.fst y4.snd.fst.snd.snd.fst
    else
      (call (144 : Nat) s_spec_l1Below ((v1_6, v1_7, v1_8, ()), (9 : Int), ())).bind
        fun (y6 : (Int × PUnit) × (List Int × Int × Int × PUnit) × PUnit) =>
        l2 v0_1 v1_1 y6.fst.fst v0_0 y6.snd.fst.fst y6.snd.fst.snd.fst y6.snd.fst.snd.snd.fst
  else
    (call (144 : Nat) s_spec_l1Below ((v1_6, v1_7, v1_8, ()), (9 : Int), ())).bind
      fun (y13 : (Int × PUnit) × (List Int × Int × Int × PUnit) × PUnit) =>
      l2 v0_1 v1_1 y13.fst.fst v0_0 y13.snd.fst.fst y13.snd.fst.snd.fst y13.snd.fst.snd.snd.fst
def L1 (call : Cl) (k : Nat) (v0_0 : (List (List Int))) (v0_1 : Int)  : Nat → (Int) → ((List Int)) → ((List Int)) → (Int) → (Int) → Option R
    | 0, _, _, _, _, _ => none
    | n + 1, v1_0, v1_1, v1_6, v1_7, v1_8 => step1 call k v0_0 v0_1  (fun v0_1_ v1_1_ v2_0_ v2_2_ v2_6_ v2_7_ v2_8_ => L2 call k v0_1_ v1_1_ k v2_0_ v2_2_ v2_6_ v2_7_ v2_8_) (L1 call k v0_0 v0_1  n) v1_0 v1_1 v1_6 v1_7 v1_8
def step0 (call : Cl) (k : Nat)   (l1 : ((List (List Int))) → (Int) → (Int) → ((List Int)) → ((List Int)) → (Int) → (Int) → Option R)  (v0_0 : (List (List Int))) (v0_1 : Int) (v0_2 : (List (List Int))) (v0_3 : Int) (v0_4 : (List Int)) (v0_5 : Int) (v0_6 : Int) : Option R :=
    (call (144 : Nat) s_spec_l1Below ((v0_4, v0_5, v0_6, ()), (6 : Int), ())).bind
    fun (y3 : (Int × PUnit) × (List Int × Int × Int × PUnit) × PUnit) =>
    l1 v0_0 v0_1 (IntKind.i64.wrap ((1 : Int) + y3.fst.fst)) [] y3.snd.fst.fst y3.snd.fst.snd.fst y3.snd.fst.snd.snd.fst
def L0 (call : Cl) (k : Nat)   : Nat → ((List (List Int))) → (Int) → ((List (List Int))) → (Int) → ((List Int)) → (Int) → (Int) → Option R
    | 0, _, _, _, _, _, _, _ => none
    | n + 1, v0_0, v0_1, v0_2, v0_3, v0_4, v0_5, v0_6 => step0 call k   (fun v0_0_ v0_1_ v1_0_ v1_1_ v1_6_ v1_7_ v1_8_ => L1 call k v0_0_ v0_1_ k v1_0_ v1_1_ v1_6_ v1_7_ v1_8_) v0_0 v0_1 v0_2 v0_3 v0_4 v0_5 v0_6
def Fm (call : Cl) (k : Nat) (l0 : ((List (List Int))) → (Int) → ((List (List Int))) → (Int) → ((List Int)) → (Int) → (Int) → Option R) (a0 : ((List Int) × (Int × (Int × Unit)))) : Option R :=
    (call (144 : Nat) s_spec_l1Below ((a0.fst, a0.snd.fst, a0.snd.snd.fst, a0.snd.snd.snd), (8 : Int), ())).bind
    fun (y0 : (Int × PUnit) × (List Int × Int × Int × PUnit) × PUnit) =>
    (call (131 : Nat) s_spec_l1Once
          ((y0.snd.fst.fst, y0.snd.fst.snd.fst, y0.snd.fst.snd.snd.fst, y0.snd.fst.snd.snd.snd), (4 : Int), ())).bind
      fun (y1 : (Bool × PUnit) × (List Int × Int × Int × PUnit) × PUnit) =>
      bif y1.fst.fst then
        (call (144 : Nat) s_spec_l1Below
              ((y1.snd.fst.fst, y1.snd.fst.snd.fst, y1.snd.fst.snd.snd.fst, y1.snd.fst.snd.snd.snd), (51 : Int), ())).bind
          fun (y2 : (Int × PUnit) × (List Int × Int × Int × PUnit) × PUnit) =>
          l0 [] (IntKind.i64.wrap ((250 : Int) + y2.fst.fst)) [] (0 : Int) y2.snd.fst.fst y2.snd.fst.snd.fst
            y2.snd.fst.snd.snd.fst
      else l0 [] y0.fst.fst [] (0 : Int) y1.snd.fst.fst y1.snd.fst.snd.fst y1.snd.fst.snd.snd.fst
def F (call : Cl) (k : Nat) (a0 : ((List Int) × (Int × (Int × Unit)))) : Option R := Fm call k (fun v0_0_ v0_1_ v0_2_ v0_3_ v0_4_ v0_5_ v0_6_ => L0 call k  k v0_0_ v0_1_ v0_2_ v0_3_ v0_4_ v0_5_ v0_6_) a0
theorem L3_eq (call : Cl) (k : Nat) (J : Nat → St → Option R) (a0 : YD_2) (v0_1 : Int) (v0_2 : YD_3) (v0_3 : Int) (v1_1 : (List Int)) (v2_0 : Int) (v2_2 : YD_3) : ∀ (n : Nat) (x : YD_1), siteI E call n_spec_l14Draw k s_spec_l14Draw (a0, ()) J 3 n (S3 v0_1 v0_2 v0_3 v1_1 v2_0 v2_2 x.1 x.2.1 x.2.2.1 x.2.2.2.1 x.2.2.2.2) = L3 call k v1_1 v2_0 v2_2 (fun v2_0_ v2_2_ v2_6_ v2_7_ v2_8_ => J 2 (S2 v0_1 v0_2 v0_3 v1_1 v2_0_ v2_2_ v2_6_ v2_7_ v2_8_)) n x.1 x.2.1 x.2.2.1 x.2.2.2.1 x.2.2.2.2 := by
  refine loop_eq (E := E) (call := call) (f := n_spec_l14Draw) (k := k) (s := s_spec_l14Draw) (l := (a0, ())) (J := J) (i := 3) (X := YD_1) (fun x => S3 v0_1 v0_2 v0_3 v1_1 v2_0 v2_2 x.1 x.2.1 x.2.2.1 x.2.2.2.1 x.2.2.2.2) (fun n x => L3 call k v1_1 v2_0 v2_2 (fun v2_0_ v2_2_ v2_6_ v2_7_ v2_8_ => J 2 (S2 v0_1 v0_2 v0_3 v1_1 v2_0_ v2_2_ v2_6_ v2_7_ v2_8_)) n x.1 x.2.1 x.2.2.1 x.2.2.2.1 x.2.2.2.2) (fun r x => step3 call k v1_1 v2_0 v2_2 (fun v2_0_ v2_2_ v2_6_ v2_7_ v2_8_ => J 2 (S2 v0_1 v0_2 v0_3 v1_1 v2_0_ v2_2_ v2_6_ v2_7_ v2_8_))  (fun v3_1 v3_2 v3_8 v3_9 v3_10 => r (v3_1, v3_2, v3_8, v3_9, v3_10)) x.1 x.2.1 x.2.2.1 x.2.2.2.1 x.2.2.2.2) ?_ ?_ ?_
  · intro x; rfl
  · intro n x; rfl
  intro J0 x
  kernel_rfl
theorem L2_eq (call : Cl) (k : Nat) (J : Nat → St → Option R) (a0 : YD_2) (v0_1 : Int) (v0_2 : YD_3) (v0_3 : Int) (v1_1 : (List Int)) : ∀ (n : Nat) (x : YD_0), siteI E call n_spec_l14Draw k s_spec_l14Draw (a0, ()) J 2 n (S2 v0_1 v0_2 v0_3 v1_1 x.1 x.2.1 x.2.2.1 x.2.2.2.1 x.2.2.2.2) = L2 call k v0_1 v1_1  n x.1 x.2.1 x.2.2.1 x.2.2.2.1 x.2.2.2.2 := by
  refine loop_eq (E := E) (call := call) (f := n_spec_l14Draw) (k := k) (s := s_spec_l14Draw) (l := (a0, ())) (J := J) (i := 2) (X := YD_0) (fun x => S2 v0_1 v0_2 v0_3 v1_1 x.1 x.2.1 x.2.2.1 x.2.2.2.1 x.2.2.2.2) (fun n x => L2 call k v0_1 v1_1  n x.1 x.2.1 x.2.2.1 x.2.2.2.1 x.2.2.2.2) (fun r x => step2 call k v0_1 v1_1  (fun (v1_1 : (List Int)) (v2_0 : Int) (v2_2 : YD_3) (v3_1_ : Int) (v3_2_ : (List Int)) (v3_8_ : (List Int)) (v3_9_ : Int) (v3_10_ : Int) => L3 call k v1_1 v2_0 v2_2 (fun v2_0_ v2_2_ v2_6_ v2_7_ v2_8_ => r (v2_0_, v2_2_, v2_6_, v2_7_, v2_8_)) k v3_1_ v3_2_ v3_8_ v3_9_ v3_10_) (fun v2_0 v2_2 v2_6 v2_7 v2_8 => r (v2_0, v2_2, v2_6, v2_7, v2_8)) x.1 x.2.1 x.2.2.1 x.2.2.2.1 x.2.2.2.2) ?_ ?_ ?_
  · intro x; rfl
  · intro n x; rfl
  intro J0 x
  refine Eq.trans (b := step2 call k v0_1 v1_1  (fun v1_1 v2_0 v2_2 v3_1_ v3_2_ v3_8_ v3_9_ v3_10_ => siteI E call n_spec_l14Draw k s_spec_l14Draw (a0, ()) (upJ 2 J0 J) 3 k (S3 v0_1 v0_2 v0_3 v1_1 v2_0 v2_2 v3_1_ v3_2_ v3_8_ v3_9_ v3_10_)) (fun v2_0 v2_2 v2_6 v2_7 v2_8 => J0 (S2 v0_1 v0_2 v0_3 v1_1 v2_0 v2_2 v2_6 v2_7 v2_8)) x.1 x.2.1 x.2.2.1 x.2.2.2.1 x.2.2.2.2) (by kernel_rfl) ?_
  rw [show (fun (v1_1 : (List Int)) (v2_0 : Int) (v2_2 : YD_3) (v3_1_ : Int) (v3_2_ : (List Int)) (v3_8_ : (List Int)) (v3_9_ : Int) (v3_10_ : Int) => siteI E call n_spec_l14Draw k s_spec_l14Draw (a0, ()) (upJ 2 J0 J) 3 k (S3 v0_1 v0_2 v0_3 v1_1 v2_0 v2_2 v3_1_ v3_2_ v3_8_ v3_9_ v3_10_)) = (fun (v1_1 : (List Int)) (v2_0 : Int) (v2_2 : YD_3) (v3_1_ : Int) (v3_2_ : (List Int)) (v3_8_ : (List Int)) (v3_9_ : Int) (v3_10_ : Int) => L3 call k v1_1 v2_0 v2_2 (fun v2_0_ v2_2_ v2_6_ v2_7_ v2_8_ => (upJ 2 J0 J) 2 (S2 v0_1 v0_2 v0_3 v1_1 v2_0_ v2_2_ v2_6_ v2_7_ v2_8_)) k v3_1_ v3_2_ v3_8_ v3_9_ v3_10_) from funext fun v1_1 => funext fun v2_0 => funext fun v2_2 => funext fun v3_1_ => funext fun v3_2_ => funext fun v3_8_ => funext fun v3_9_ => funext fun v3_10_ => L3_eq call k (upJ 2 J0 J) a0 v0_1 v0_2 v0_3 v1_1 v2_0 v2_2 k (v3_1_, v3_2_, v3_8_, v3_9_, v3_10_)]
  all_goals rfl
theorem L1_eq (call : Cl) (k : Nat) (J : Nat → St → Option R) (a0 : YD_2) (v0_0 : YD_3) (v0_1 : Int) (v0_2 : YD_3) (v0_3 : Int) : ∀ (n : Nat) (x : YD_1), siteI E call n_spec_l14Draw k s_spec_l14Draw (a0, ()) J 1 n (S1 v0_0 v0_1 v0_2 v0_3 x.1 x.2.1 x.2.2.1 x.2.2.2.1 x.2.2.2.2) = L1 call k v0_0 v0_1  n x.1 x.2.1 x.2.2.1 x.2.2.2.1 x.2.2.2.2 := by
  refine loop_eq (E := E) (call := call) (f := n_spec_l14Draw) (k := k) (s := s_spec_l14Draw) (l := (a0, ())) (J := J) (i := 1) (X := YD_1) (fun x => S1 v0_0 v0_1 v0_2 v0_3 x.1 x.2.1 x.2.2.1 x.2.2.2.1 x.2.2.2.2) (fun n x => L1 call k v0_0 v0_1  n x.1 x.2.1 x.2.2.1 x.2.2.2.1 x.2.2.2.2) (fun r x => step1 call k v0_0 v0_1  (fun (v0_1 : Int) (v1_1 : (List Int)) (v2_0_ : Int) (v2_2_ : YD_3) (v2_6_ : (List Int)) (v2_7_ : Int) (v2_8_ : Int) => L2 call k v0_1 v1_1 k v2_0_ v2_2_ v2_6_ v2_7_ v2_8_) (fun v1_0 v1_1 v1_6 v1_7 v1_8 => r (v1_0, v1_1, v1_6, v1_7, v1_8)) x.1 x.2.1 x.2.2.1 x.2.2.2.1 x.2.2.2.2) ?_ ?_ ?_
  · intro x; rfl
  · intro n x; rfl
  intro J0 x
  refine Eq.trans (b := step1 call k v0_0 v0_1  (fun v0_1 v1_1 v2_0_ v2_2_ v2_6_ v2_7_ v2_8_ => siteI E call n_spec_l14Draw k s_spec_l14Draw (a0, ()) (upJ 1 J0 J) 2 k (S2 v0_1 v0_2 v0_3 v1_1 v2_0_ v2_2_ v2_6_ v2_7_ v2_8_)) (fun v1_0 v1_1 v1_6 v1_7 v1_8 => J0 (S1 v0_0 v0_1 v0_2 v0_3 v1_0 v1_1 v1_6 v1_7 v1_8)) x.1 x.2.1 x.2.2.1 x.2.2.2.1 x.2.2.2.2) (by kernel_rfl) ?_
  rw [show (fun (v0_1 : Int) (v1_1 : (List Int)) (v2_0_ : Int) (v2_2_ : YD_3) (v2_6_ : (List Int)) (v2_7_ : Int) (v2_8_ : Int) => siteI E call n_spec_l14Draw k s_spec_l14Draw (a0, ()) (upJ 1 J0 J) 2 k (S2 v0_1 v0_2 v0_3 v1_1 v2_0_ v2_2_ v2_6_ v2_7_ v2_8_)) = (fun (v0_1 : Int) (v1_1 : (List Int)) (v2_0_ : Int) (v2_2_ : YD_3) (v2_6_ : (List Int)) (v2_7_ : Int) (v2_8_ : Int) => L2 call k v0_1 v1_1 k v2_0_ v2_2_ v2_6_ v2_7_ v2_8_) from funext fun v0_1 => funext fun v1_1 => funext fun v2_0_ => funext fun v2_2_ => funext fun v2_6_ => funext fun v2_7_ => funext fun v2_8_ => L2_eq call k (upJ 1 J0 J) a0 v0_1 v0_2 v0_3 v1_1 k (v2_0_, v2_2_, v2_6_, v2_7_, v2_8_)]
  all_goals rfl
theorem L0_eq (call : Cl) (k : Nat) (J : Nat → St → Option R) (a0 : YD_2) : ∀ (n : Nat) (x : ((YD_3) × (Int) × (YD_3) × (Int) × ((List Int)) × (Int) × (Int))), siteX E call n_spec_l14Draw k s_spec_l14Draw (a0, ()) J 0 n (S0  x.1 x.2.1 x.2.2.1 x.2.2.2.1 x.2.2.2.2.1 x.2.2.2.2.2.1 x.2.2.2.2.2.2) = L0 call k   n x.1 x.2.1 x.2.2.1 x.2.2.2.1 x.2.2.2.2.1 x.2.2.2.2.2.1 x.2.2.2.2.2.2 := by
  refine cut_eq (E := E) (call := call) (f := n_spec_l14Draw) (k := k) (s := s_spec_l14Draw) (l := (a0, ())) (J := J) (i := 0) (X := ((YD_3) × (Int) × (YD_3) × (Int) × ((List Int)) × (Int) × (Int))) (fun x => S0  x.1 x.2.1 x.2.2.1 x.2.2.2.1 x.2.2.2.2.1 x.2.2.2.2.2.1 x.2.2.2.2.2.2) (fun n x => L0 call k   n x.1 x.2.1 x.2.2.1 x.2.2.2.1 x.2.2.2.2.1 x.2.2.2.2.2.1 x.2.2.2.2.2.2) (fun x => step0 call k   (fun (v0_0 : YD_3) (v0_1 : Int) (v1_0_ : Int) (v1_1_ : (List Int)) (v1_6_ : (List Int)) (v1_7_ : Int) (v1_8_ : Int) => L1 call k v0_0 v0_1 k v1_0_ v1_1_ v1_6_ v1_7_ v1_8_) x.1 x.2.1 x.2.2.1 x.2.2.2.1 x.2.2.2.2.1 x.2.2.2.2.2.1 x.2.2.2.2.2.2) ?_ ?_ ?_
  · intro x; rfl
  · intro n x; rfl
  rintro ⟨v0_0, v0_1, v0_2, v0_3, v0_4, v0_5, v0_6⟩
  exact Eq.trans (b := step0 call k   (fun v0_0 v0_1 v1_0_ v1_1_ v1_6_ v1_7_ v1_8_ => siteI E call n_spec_l14Draw k s_spec_l14Draw (a0, ()) J 1 k (S1 v0_0 v0_1 v0_2 v0_3 v1_0_ v1_1_ v1_6_ v1_7_ v1_8_)) v0_0 v0_1 v0_2 v0_3 v0_4 v0_5 v0_6) (by kernel_rfl) (congrArg (fun l => step0 call k   l v0_0 v0_1 v0_2 v0_3 v0_4 v0_5 v0_6) (funext fun v0_0 => funext fun v0_1 => funext fun v1_0_ => funext fun v1_1_ => funext fun v1_6_ => funext fun v1_7_ => funext fun v1_8_ => L1_eq call k J a0 v0_0 v0_1 v0_2 v0_3 k (v1_0_, v1_1_, v1_6_, v1_7_, v1_8_)))
theorem F_eq (call : Cl) (k : Nat) (a0 : YD_2) : bodyK E call n_spec_l14Draw k s_spec_l14Draw (a0, ()) = F call k a0 := by
  exact Eq.trans (b := Fm call k (fun v0_0_ v0_1_ v0_2_ v0_3_ v0_4_ v0_5_ v0_6_ => siteX E call n_spec_l14Draw k s_spec_l14Draw (a0, ()) (fun _ _ => none) 0 k (S0 v0_0_ v0_1_ v0_2_ v0_3_ v0_4_ v0_5_ v0_6_)) a0) (by kernel_rfl) (congrArg (fun l => Fm call k l a0) (funext fun v0_0_ => funext fun v0_1_ => funext fun v0_2_ => funext fun v0_3_ => funext fun v0_4_ => funext fun v0_5_ => funext fun v0_6_ => L0_eq call k (fun _ _ => none) a0 k (v0_0_, v0_1_, v0_2_, v0_3_, v0_4_, v0_5_, v0_6_)))
end spec_l14Draw
/-! #### spec_l14DrawAny -/
namespace spec_l14DrawAny
abbrev R := (((Int × ((List (List Int)) × Unit)) × Unit) × (((List Int) × (Int × (Int × Unit))) × Unit))
def S0 (y0 : (((Int × (YD_3 × Unit)) × Unit) × (YD_2 × Unit))) (v0_0 : YD_3) (v0_4 : (List Int)) (v0_5 : Int) (v0_6 : Int) : St := ⟨mkS 83 [(0, .p [0] [] 0), (2, .p [2] [] 0), (3, .p [3] [] 0)], [([3, 5, 1, 0], .list 41 (.own 2 (.int .i64)) v0_0), ([3], .box (.pr (.v (.int .i64) (y0.fst.fst.fst)) (.pr (.ref [3, 5, 1, 0]) (.v .unit ())))), ([2, 5, 1, 0], .list 41 (.own 2 (.int .i64)) ([])), ([2], .box (.pr (.v (.int .i64) ((0 : Int))) (.pr (.ref [2, 5, 1, 0]) (.v .unit ())))), ([0], .box (.v (.pair (.slc (.int .u8)) (.pair (.int .i64) (.pair (.int .i64) .unit))) (v0_4, (v0_5, (v0_6, ())))))]⟩
def S1 (v1_0 : Int) (v1_1 : YD_3) (v1_5 : (List Int)) (v1_6 : Int) (v1_7 : Int) : St := ⟨mkS 83 [(0, .p [0] [] 0), (2, .p [2] [] 0), (3, .p [3] [] 0), (4, .v (.int .i64) v1_0)], [([3, 5, 1, 0], .list 41 (.own 2 (.int .i64)) v1_1), ([3], .box (.pr (.v (.int .i64) ((20 : Int))) (.pr (.ref [3, 5, 1, 0]) (.v .unit ())))), ([2, 5, 1, 0], .list 41 (.own 2 (.int .i64)) ([])), ([2], .box (.pr (.v (.int .i64) ((0 : Int))) (.pr (.ref [2, 5, 1, 0]) (.v .unit ())))), ([0], .box (.v (.pair (.slc (.int .u8)) (.pair (.int .i64) (.pair (.int .i64) .unit))) (v1_5, (v1_6, (v1_7, ())))))]⟩
def step0 (call : Cl) (k : Nat) (y0 : (((Int × ((List (List Int)) × Unit)) × Unit) × (((List Int) × (Int × (Int × Unit))) × Unit)))   (r0 : ((List (List Int))) → ((List Int)) → (Int) → (Int) → Option R) (v0_0 : (List (List Int))) (v0_4 : (List Int)) (v0_5 : Int) (v0_6 : Int) : Option R :=
    (call (144 : Nat) s_spec_l1Below ((v0_4, v0_5, v0_6, ()), (2 : Int), ())).bind
    fun (y8 : (Int × PUnit) × (List Int × Int × Int × PUnit) × PUnit) =>
    bif decide ((↑v0_0.length : Int) < IntKind.i64.wrap ((60 : Int) + y8.fst.fst)) then
      bif decide ((v0_0.length + (1 : Nat)) * ti41.bytes ≤ (140737488355328 : Nat)) then
        r0 (v0_0 ++ [[]]) y8.snd.fst.fst y8.snd.fst.snd.fst y8.snd.fst.snd.snd.fst
      else none
    else
      some
        (((y0.fst.fst.fst, v0_0, ()), ()),
          (y8.snd.fst.fst, y8.snd.fst.snd.fst, y8.snd.fst.snd.snd.fst, y8.snd.fst.snd.snd.snd), ())
def L0 (call : Cl) (k : Nat) (y0 : (((Int × ((List (List Int)) × Unit)) × Unit) × (((List Int) × (Int × (Int × Unit))) × Unit)))  : Nat → ((List (List Int))) → ((List Int)) → (Int) → (Int) → Option R
    | 0, _, _, _, _ => none
    | n + 1, v0_0, v0_4, v0_5, v0_6 => step0 call k y0   (L0 call k y0  n) v0_0 v0_4 v0_5 v0_6
def step1 (call : Cl) (k : Nat)    (r1 : (Int) → ((List (List Int))) → ((List Int)) → (Int) → (Int) → Option R) (v1_0 : Int) (v1_1 : (List (List Int))) (v1_5 : (List Int)) (v1_6 : Int) (v1_7 : Int) : Option R :=
    (call (144 : Nat) s_spec_l1Below ((v1_5, v1_6, v1_7, ()), (2 : Int), ())).bind
    fun (y9 : (Int × PUnit) × (List Int × Int × Int × PUnit) × PUnit) =>
    bif decide (v1_0 ≤ IntKind.i64.wrap ((12 : Int) + y9.fst.fst)) then
      (call (144 : Nat) s_spec_l1Below
            ((y9.snd.fst.fst, y9.snd.fst.snd.fst, y9.snd.fst.snd.snd.fst, y9.snd.fst.snd.snd.snd), (2 : Int), ())).bind
        fun (y10 : (Int × PUnit) × (List Int × Int × Int × PUnit) × PUnit) =>
        bif decide ((0 : Int) ≤ IntKind.i64.wrap ((1 : Int) + y10.fst.fst)) then
          bif
              decide ((0 : Nat) ≤ (IntKind.i64.wrap ((1 : Int) + y10.fst.fst)).toNat) &&
                decide
                  ((IntKind.i64.wrap ((1 : Int) + y10.fst.fst)).toNat ≤
                    [v1_0,
                        IntKind.i64.wrap ((0 : Int) - IntKind.i64.wrap (v1_0.tmod (12 : Int) + (1 : Int)))].length) then
            bif
                decide
                  ((v1_1.length +
                        [List.take ((IntKind.i64.wrap ((1 : Int) + y10.fst.fst)).toNat - (0 : Nat))
                              [v1_0,
                                IntKind.i64.wrap
                                  ((0 : Int) - IntKind.i64.wrap (v1_0.tmod (12 : Int) + (1 : Int)))]].length) *
                      ti41.bytes ≤
                    (140737488355328 : Nat)) then
              r1 (IntKind.i64.wrap (v1_0 + (1 : Int)))
                (v1_1 ++
                  [List.take ((IntKind.i64.wrap ((1 : Int) + y10.fst.fst)).toNat - (0 : Nat))
                      [v1_0, IntKind.i64.wrap ((0 : Int) - IntKind.i64.wrap (v1_0.tmod (12 : Int) + (1 : Int)))]])
                y10.snd.fst.fst y10.snd.fst.snd.fst y10.snd.fst.snd.snd.fst
            else none
          else none
        else none
    else
      some
        ((((20 : Int), v1_1, ()), ()),
          (y9.snd.fst.fst, y9.snd.fst.snd.fst, y9.snd.fst.snd.snd.fst, y9.snd.fst.snd.snd.snd), ())
def L1 (call : Cl) (k : Nat)   : Nat → (Int) → ((List (List Int))) → ((List Int)) → (Int) → (Int) → Option R
    | 0, _, _, _, _, _ => none
    | n + 1, v1_0, v1_1, v1_5, v1_6, v1_7 => step1 call k    (L1 call k   n) v1_0 v1_1 v1_5 v1_6 v1_7
def Fm (call : Cl) (k : Nat) (l0 : ((((Int × ((List (List Int)) × Unit)) × Unit) × (((List Int) × (Int × (Int × Unit))) × Unit))) → ((List (List Int))) → ((List Int)) → (Int) → (Int) → Option R) (l1 : (Int) → ((List (List Int))) → ((List Int)) → (Int) → (Int) → Option R) (a0 : ((List Int) × (Int × (Int × Unit)))) : Option R :=
    (call (160 : Nat) s_spec_l14Draw ((a0.fst, a0.snd.fst, a0.snd.snd.fst, a0.snd.snd.snd), ())).bind
    fun (y0 : ((Int × List (List Int) × PUnit) × PUnit) × (List Int × Int × Int × PUnit) × PUnit) =>
    (call (131 : Nat) s_spec_l1Once
          ((y0.snd.fst.fst, y0.snd.fst.snd.fst, y0.snd.fst.snd.snd.fst, y0.snd.fst.snd.snd.snd), (8 : Int), ())).bind
      fun (y1 : (Bool × PUnit) × (List Int × Int × Int × PUnit) × PUnit) =>
      bif y1.fst.fst then
        (call (144 : Nat) s_spec_l1Below
              ((y1.snd.fst.fst, y1.snd.fst.snd.fst, y1.snd.fst.snd.snd.fst, y1.snd.fst.snd.snd.snd), (5 : Int), ())).bind
          fun (y2 : (Int × PUnit) × (List Int × Int × Int × PUnit) × PUnit) =>
          bif y2.fst.fst == (0 : Int) then
            (call (156 : Nat) s_spec_l1Num
                  ((y2.snd.fst.fst, y2.snd.fst.snd.fst, y2.snd.fst.snd.snd.fst, y2.snd.fst.snd.snd.snd), (300 : Int),
                    ())).bind
              fun (y3 : (Int × PUnit) × (List Int × Int × Int × PUnit) × PUnit) =>
              some
                (((y3.fst.fst, y0.fst.fst.snd.fst, y0.fst.fst.snd.snd), ()),
                  (y3.snd.fst.fst, y3.snd.fst.snd.fst, y3.snd.fst.snd.snd.fst, y3.snd.fst.snd.snd.snd), ())
          else
            bif y2.fst.fst == (1 : Int) then
              bif decide ((List.length y0.fst.fst.snd.fst + (1 : Nat)) * ti41.bytes ≤ (140737488355328 : Nat)) then
                some
                  (((y0.fst.fst.fst, y0.fst.fst.snd.fst ++ [[]], y0.fst.fst.snd.snd), ()),
                    (y2.snd.fst.fst, y2.snd.fst.snd.fst, y2.snd.fst.snd.snd.fst, y2.snd.fst.snd.snd.snd), ())
              else none
            else
              bif y2.fst.fst == (2 : Int) then
                (call (157 : Nat) s_spec_l1From
                      ((y2.snd.fst.fst, y2.snd.fst.snd.fst, y2.snd.fst.snd.snd.fst, y2.snd.fst.snd.snd.snd), (-9 : Int),
                        (9 : Int), ())).bind
                  fun (y4 : (Int × PUnit) × (List Int × Int × Int × PUnit) × PUnit) =>
                  (call (157 : Nat) s_spec_l1From
                        ((y4.snd.fst.fst, y4.snd.fst.snd.fst, y4.snd.fst.snd.snd.fst, y4.snd.fst.snd.snd.snd), (-9 : Int),
                          (9 : Int), ())).bind
                    fun (y5 : (Int × PUnit) × (List Int × Int × Int × PUnit) × PUnit) =>
                    (call (161 : Nat) s_spec_l1Odd
                          ((y5.snd.fst.fst, y5.snd.fst.snd.fst, y5.snd.fst.snd.snd.fst, y5.snd.fst.snd.snd.snd), ())).bind
                      fun (y6 : (Int × PUnit) × (List Int × Int × Int × PUnit) × PUnit) =>
                      (call (144 : Nat) s_spec_l1Below
                            ((y6.snd.fst.fst, y6.snd.fst.snd.fst, y6.snd.fst.snd.snd.fst, y6.snd.fst.snd.snd.snd),
                              (3 : Int), ())).bind
                        fun (y7 : (Int × PUnit) × (List Int × Int × Int × PUnit) × PUnit) =>
                        bif decide ((0 : Int) ≤ IntKind.i64.wrap ((1 : Int) + y7.fst.fst)) then
                          bif
                              decide ((0 : Nat) ≤ (IntKind.i64.wrap ((1 : Int) + y7.fst.fst)).toNat) &&
                                decide
                                  ((IntKind.i64.wrap ((1 : Int) + y7.fst.fst)).toNat ≤
                                    [y4.fst.fst, y5.fst.fst, y6.fst.fst].length) then
                            bif
                                decide
                                  ((List.length y0.fst.fst.snd.fst +
                                        [List.take ((IntKind.i64.wrap ((1 : Int) + y7.fst.fst)).toNat - (0 : Nat))
                                              [y4.fst.fst, y5.fst.fst, y6.fst.fst]].length) *
                                      ti41.bytes ≤
                                    (140737488355328 : Nat)) then
                              some
                                (((y0.fst.fst.fst,
                                      y0.fst.fst.snd.fst ++
                                        [List.take ((IntKind.i64.wrap ((1 : Int) + y7.fst.fst)).toNat - (0 : Nat))
                                            [y4.fst.fst, y5.fst.fst, y6.fst.fst]],
                                      y0.fst.fst.snd.snd),
                                    ()),
                                  (y7.snd.fst.fst, y7.snd.fst.snd.fst, y7.snd.fst.snd.snd.fst, y7.snd.fst.snd.snd.snd),
                                  ())
                            else none
                          else none
                        else none
              else
                bif y2.fst.fst == (3 : Int) then
                  l0 y0 y0.fst.fst.snd.fst y2.snd.fst.fst y2.snd.fst.snd.fst y2.snd.fst.snd.snd.fst
                else
                  bif y2.fst.fst == (4 : Int) then
                    l1 (1 : Int) [] y2.snd.fst.fst y2.snd.fst.snd.fst y2.snd.fst.snd.snd.fst
                  else
                    some
                      (((y0.fst.fst.fst, y0.fst.fst.snd.fst, y0.fst.fst.snd.snd), ()),
                        (y2.snd.fst.fst, y2.snd.fst.snd.fst, y2.snd.fst.snd.snd.fst, y2.snd.fst.snd.snd.snd), ())
      else
        some
          (((y0.fst.fst.fst, y0.fst.fst.snd.fst, y0.fst.fst.snd.snd), ()),
            (y1.snd.fst.fst, y1.snd.fst.snd.fst, y1.snd.fst.snd.snd.fst, y1.snd.fst.snd.snd.snd), ())
def F (call : Cl) (k : Nat) (a0 : ((List Int) × (Int × (Int × Unit)))) : Option R := Fm call k (fun y0_ v0_0_ v0_4_ v0_5_ v0_6_ => L0 call k y0_ k v0_0_ v0_4_ v0_5_ v0_6_) (fun v1_0_ v1_1_ v1_5_ v1_6_ v1_7_ => L1 call k  k v1_0_ v1_1_ v1_5_ v1_6_ v1_7_) a0
theorem L0_eq (call : Cl) (k : Nat) (J : Nat → St → Option R) (a0 : YD_2) (y0 : (((Int × (YD_3 × Unit)) × Unit) × (YD_2 × Unit))) : ∀ (n : Nat) (x : ((YD_3) × ((List Int)) × (Int) × (Int))), siteI E call n_spec_l14DrawAny k s_spec_l14DrawAny (a0, ()) J 0 n (S0 y0 x.1 x.2.1 x.2.2.1 x.2.2.2) = L0 call k y0  n x.1 x.2.1 x.2.2.1 x.2.2.2 := by
  refine loop_eq (E := E) (call := call) (f := n_spec_l14DrawAny) (k := k) (s := s_spec_l14DrawAny) (l := (a0, ())) (J := J) (i := 0) (X := ((YD_3) × ((List Int)) × (Int) × (Int))) (fun x => S0 y0 x.1 x.2.1 x.2.2.1 x.2.2.2) (fun n x => L0 call k y0  n x.1 x.2.1 x.2.2.1 x.2.2.2) (fun r x => step0 call k y0   (fun v0_0 v0_4 v0_5 v0_6 => r (v0_0, v0_4, v0_5, v0_6)) x.1 x.2.1 x.2.2.1 x.2.2.2) ?_ ?_ ?_
  · intro x; rfl
  · intro n x; rfl
  intro J0 x
  kernel_rfl
theorem L1_eq (call : Cl) (k : Nat) (J : Nat → St → Option R) (a0 : YD_2) : ∀ (n : Nat) (x : YD_0), siteI E call n_spec_l14DrawAny k s_spec_l14DrawAny (a0, ()) J 1 n (S1  x.1 x.2.1 x.2.2.1 x.2.2.2.1 x.2.2.2.2) = L1 call k   n x.1 x.2.1 x.2.2.1 x.2.2.2.1 x.2.2.2.2 := by
  refine loop_eq (E := E) (call := call) (f := n_spec_l14DrawAny) (k := k) (s := s_spec_l14DrawAny) (l := (a0, ())) (J := J) (i := 1) (X := YD_0) (fun x => S1  x.1 x.2.1 x.2.2.1 x.2.2.2.1 x.2.2.2.2) (fun n x => L1 call k   n x.1 x.2.1 x.2.2.1 x.2.2.2.1 x.2.2.2.2) (fun r x => step1 call k    (fun v1_0 v1_1 v1_5 v1_6 v1_7 => r (v1_0, v1_1, v1_5, v1_6, v1_7)) x.1 x.2.1 x.2.2.1 x.2.2.2.1 x.2.2.2.2) ?_ ?_ ?_
  · intro x; rfl
  · intro n x; rfl
  intro J0 x
  kernel_rfl
theorem F_eq (call : Cl) (k : Nat) (a0 : YD_2) : bodyK E call n_spec_l14DrawAny k s_spec_l14DrawAny (a0, ()) = F call k a0 := by
  exact Eq.trans (b := Fm call k (fun y0 v0_0_ v0_4_ v0_5_ v0_6_ => siteI E call n_spec_l14DrawAny k s_spec_l14DrawAny (a0, ()) (fun _ _ => none) 0 k (S0 y0 v0_0_ v0_4_ v0_5_ v0_6_)) (fun v1_0_ v1_1_ v1_5_ v1_6_ v1_7_ => siteI E call n_spec_l14DrawAny k s_spec_l14DrawAny (a0, ()) (fun _ _ => none) 1 k (S1 v1_0_ v1_1_ v1_5_ v1_6_ v1_7_)) a0) (by kernel_rfl) (Eq.trans (congrArg (fun l => Fm call k l _ a0) (funext fun y0 => funext fun v0_0_ => funext fun v0_4_ => funext fun v0_5_ => funext fun v0_6_ => L0_eq call k (fun _ _ => none) a0 y0 k (v0_0_, v0_4_, v0_5_, v0_6_))) (congrArg (fun l => Fm call k _ l a0) (funext fun v1_0_ => funext fun v1_1_ => funext fun v1_5_ => funext fun v1_6_ => funext fun v1_7_ => L1_eq call k (fun _ _ => none) a0 k (v1_0_, v1_1_, v1_5_, v1_6_, v1_7_))))
end spec_l14DrawAny
/-! #### spec_DrawCountCnf -/
namespace spec_DrawCountCnf
abbrev R := (((Int × ((List (List Int)) × Unit)) × Unit) × Unit)
def Fm (call : Cl) (k : Nat)  (a0 : (List Int)) : Option R :=
    (call (129 : Nat) s_spec_l1New (a0, ())).bind fun (y0 : ((List Int × Int × Int × PUnit) × PUnit) × PUnit) =>
    (call (139 : Nat) s_spec_l14DrawAny
          ((y0.fst.fst.fst, y0.fst.fst.snd.fst, y0.fst.fst.snd.snd.fst, y0.fst.fst.snd.snd.snd), ())).bind
      fun (y1 : ((Int × List (List Int) × PUnit) × PUnit) × (List Int × Int × Int × PUnit) × PUnit) =>
      some (((y1.fst.fst.fst, y1.fst.fst.snd.fst, y1.fst.fst.snd.snd), ()), ())
def F (call : Cl) (k : Nat) (a0 : (List Int)) : Option R := Fm call k  a0
theorem F_eq (call : Cl) (k : Nat) (a0 : (List Int)) : bodyK E call n_spec_DrawCountCnf k s_spec_DrawCountCnf (a0, ()) = F call k a0 := by
  kernel_rfl
end spec_DrawCountCnf
end Go.Proofs.Ytcmgjdmhemfecaa.Pf
