/- Printed texts: what the reading of these functions is. No condition. -/
import Derived.Test.YtcmgjdmhemfecaaPvEnv
import Derived.KernelRfl
set_option linter.unusedVariables false
namespace Go.Proofs.Ytcmgjdmhemfecaa.Pf
open Go Go.Pv
abbrev YC_0 := ((List Int) × (Int × (Int × Unit)))
abbrev YC_1 := ((Int) × (Int))
/-! #### laws_big -/
namespace laws_big
abbrev R := ((Bool × Unit) × Unit)
def Fm (call : Cl) (k : Nat)  (a0 : (List Int)) : Option R :=
    some ((decide ((↑a0.length : Int) > (4096 : Int)), ()), ())
def F (call : Cl) (k : Nat) (a0 : (List Int)) : Option R := Fm call k  a0
theorem F_eq (call : Cl) (k : Nat) (a0 : (List Int)) : bodyK E call n_laws_big k s_laws_big (a0, ()) = F call k a0 := by
  kernel_rfl
end laws_big
/-! #### laws_roll -/
namespace laws_roll
abbrev R := ((((List Int) × (Int × (Int × Unit))) × Unit) × Unit)
def S0 (a0 : (List Int)) (v0_1 : Int) (v0_4 : Int) : St := ⟨mkS 38 [(0, .v (.slc (.int .u8)) (a0)), (5, .p [5] [] 0), (6, .v (.int .i64) v0_1)], [([5], .box (.v (.pair (.slc (.int .u8)) (.pair (.int .i64) (.pair (.int .u64) .unit))) ((a0), (((0 : Int)), (v0_4, ())))))]⟩
def step0 (call : Cl) (k : Nat) (a0 : (List Int))   (r0 : (Int) → (Int) → Option R) (v0_1 : Int) (v0_4 : Int) : Option R :=
    bif decide (v0_1 < (↑a0.length : Int)) then
    bif decide ((0 : Int) ≤ v0_1) then
      (lget a0 v0_1.toNat).bind fun (y0 : Int) =>
        r0 (IntKind.i64.wrap (v0_1 + (1 : Int)))
          (IntKind.u64.wrap
            (IntKind.u64.wrap (IntKind.u64.wrap (v0_4 * (1099511628211 : Int)) + IntKind.u64.wrap y0) + (3 : Int)))
    else none
  else some (((a0, (0 : Int), v0_4, ()), ()), ())
def L0 (call : Cl) (k : Nat) (a0 : (List Int))  : Nat → (Int) → (Int) → Option R
    | 0, _, _ => none
    | n + 1, v0_1, v0_4 => step0 call k a0   (L0 call k a0  n) v0_1 v0_4
def Fm (call : Cl) (k : Nat) (l0 : ((List Int)) → (Int) → (Int) → Option R) (a0 : (List Int)) (a1 : Int) : Option R :=
    l0 a0 (0 : Int) (IntKind.u64.wrap (IntKind.u64.wrap (a1 * (7919 : Int)) + IntKind.u64.wrap (↑a0.length : Int)))
def F (call : Cl) (k : Nat) (a0 : (List Int)) (a1 : Int) : Option R := Fm call k (fun a0_ v0_1_ v0_4_ => L0 call k a0_ k v0_1_ v0_4_) a0 a1
theorem L0_eq (call : Cl) (k : Nat) (J : Nat → St → Option R) (a0 : (List Int)) (a1 : Int) : ∀ (n : Nat) (x : YC_1), siteI E call n_laws_roll k s_laws_roll (a0, a1, ()) J 0 n (S0 a0 x.1 x.2) = L0 call k a0  n x.1 x.2 := by
  refine loop_eq (E := E) (call := call) (f := n_laws_roll) (k := k) (s := s_laws_roll) (l := (a0, a1, ())) (J := J) (i := 0) (X := YC_1) (fun x => S0 a0 x.1 x.2) (fun n x => L0 call k a0  n x.1 x.2) (fun r x => step0 call k a0   (fun v0_1 v0_4 => r (v0_1, v0_4)) x.1 x.2) ?_ ?_ ?_
  · intro x; rfl
  · intro n x; rfl
  intro J0 x
  kernel_rfl
theorem F_eq (call : Cl) (k : Nat) (a0 : (List Int)) (a1 : Int) : bodyK E call n_laws_roll k s_laws_roll (a0, a1, ()) = F call k a0 a1 := by
  exact Eq.trans (b := Fm call k (fun a0 v0_1_ v0_4_ => siteI E call n_laws_roll k s_laws_roll (a0, a1, ()) (fun _ _ => none) 0 k (S0 a0 v0_1_ v0_4_)) a0 a1) (by kernel_rfl) (congrArg (fun l => Fm call k l a0 a1) (funext fun a0 => funext fun v0_1_ => funext fun v0_4_ => L0_eq call k (fun _ _ => none) a0 a1 k (v0_1_, v0_4_)))
end laws_roll
/-! #### laws_dice_below -/
namespace laws_dice_below
abbrev R := ((Int × Unit) × (((List Int) × (Int × (Int × Unit))) × Unit))
def Fm (call : Cl) (k : Nat)  (a0 : ((List Int) × (Int × (Int × Unit)))) (a1 : Int) : Option R :=
    bif decide (a0.snd.fst < (↑(List.length a0.fst) : Int)) then
    bif decide ((0 : Int) ≤ a0.snd.fst) then
      (lget a0.fst (Int.toNat a0.snd.fst)).bind fun (y0 : Int) =>
        bif decide (a1 = (0 : Int)) then none
        else
          some
            (((IntKind.i64.wrap
                      (IntKind.i64.wrap
                          (bitsI BinOp.and IntKind.u64
                            (shrI IntKind.u64
                              (IntKind.u64.wrap
                                (IntKind.u64.wrap (a0.snd.snd.fst * (6364136223846793005 : Int)) +
                                  (1442695040888963407 : Int)))
                              (33 : Int))
                            (16777215 : Int)) +
                        IntKind.i64.wrap y0)).tmod
                  a1,
                ()),
              (a0.fst, IntKind.i64.wrap (a0.snd.fst + (1 : Int)),
                IntKind.u64.wrap
                  (IntKind.u64.wrap (a0.snd.snd.fst * (6364136223846793005 : Int)) + (1442695040888963407 : Int)),
                a0.snd.snd.snd),
              ())
    else none
  else
    bif decide (a1 = (0 : Int)) then none
    else
      some
        (((IntKind.i64.wrap
                  (bitsI BinOp.and IntKind.u64
                    (shrI IntKind.u64
                      (IntKind.u64.wrap
                        (IntKind.u64.wrap (a0.snd.snd.fst * (6364136223846793005 : Int)) + (1442695040888963407 : Int)))
                      (33 : Int))
                    (16777215 : Int))).tmod
              a1,
            ()),
          (a0.fst, a0.snd.fst,
            IntKind.u64.wrap
              (IntKind.u64.wrap (a0.snd.snd.fst * (6364136223846793005 : Int)) + (1442695040888963407 : Int)),
            a0.snd.snd.snd),
          ())
def F (call : Cl) (k : Nat) (a0 : ((List Int) × (Int × (Int × Unit)))) (a1 : Int) : Option R := Fm call k  a0 a1
theorem F_eq (call : Cl) (k : Nat) (a0 : YC_0) (a1 : Int) : bodyK E call n_laws_dice_below k s_laws_dice_below (a0, a1, ()) = F call k a0 a1 := by
  kernel_rfl
end laws_dice_below
/-! #### laws_likeInts -/
namespace laws_likeInts
abbrev R := ((Bool × Unit) × Unit)
def S0 (a0 : (List Int)) (a1 : (List Int)) (v0_2 : Int) : St := ⟨mkS 26 [(0, .v (.slc (.int .i64)) (a0)), (1, .v (.slc (.int .i64)) (a1)), (5, .v (.int .i64) v0_2)], []⟩
def step0 (call : Cl) (k : Nat) (a0 : (List Int)) (a1 : (List Int))   (r0 : (Int) → Option R) (v0_2 : Int) : Option R :=
    bif decide (v0_2 < (↑a0.length : Int)) then
    bif decide ((0 : Int) ≤ v0_2) then
      (lget a0 v0_2.toNat).bind fun (y0 : Int) =>
        bif decide ((0 : Int) ≤ v0_2) then
          (lget a1 v0_2.toNat).bind fun (y1 : Int) =>
            bif y0 != y1 then some ((false, ()), ()) else r0 (IntKind.i64.wrap (v0_2 + (1 : Int)))
        else none
    else none
  else some ((true, ()), ())
def L0 (call : Cl) (k : Nat) (a0 : (List Int)) (a1 : (List Int))  : Nat → (Int) → Option R
    | 0, _ => none
    | n + 1, v0_2 => step0 call k a0 a1   (L0 call k a0 a1  n) v0_2
def Fm (call : Cl) (k : Nat) (l0 : ((List Int)) → ((List Int)) → (Int) → Option R) (a0 : (List Int)) (a1 : (List Int)) : Option R :=
    bif (↑a0.length : Int) != (↑a1.length : Int) then some ((false, ()), ()) else l0 a0 a1 (0 : Int)
def F (call : Cl) (k : Nat) (a0 : (List Int)) (a1 : (List Int)) : Option R := Fm call k (fun a0_ a1_ v0_2_ => L0 call k a0_ a1_ k v0_2_) a0 a1
theorem L0_eq (call : Cl) (k : Nat) (J : Nat → St → Option R) (a0 : (List Int)) (a1 : (List Int)) : ∀ (n : Nat) (x : (Int)), siteI E call n_laws_likeInts k s_laws_likeInts (a0, a1, ()) J 0 n (S0 a0 a1 x) = L0 call k a0 a1  n x := by
  refine loop_eq (E := E) (call := call) (f := n_laws_likeInts) (k := k) (s := s_laws_likeInts) (l := (a0, a1, ())) (J := J) (i := 0) (X := (Int)) (fun x => S0 a0 a1 x) (fun n x => L0 call k a0 a1  n x) (fun r x => step0 call k a0 a1   (fun v0_2 => r v0_2) x) ?_ ?_ ?_
  · intro x; rfl
  · intro n x; rfl
  intro J0 x
  kernel_rfl
theorem F_eq (call : Cl) (k : Nat) (a0 : (List Int)) (a1 : (List Int)) : bodyK E call n_laws_likeInts k s_laws_likeInts (a0, a1, ()) = F call k a0 a1 := by
  exact Eq.trans (b := Fm call k (fun a0 a1 v0_2_ => siteI E call n_laws_likeInts k s_laws_likeInts (a0, a1, ()) (fun _ _ => none) 0 k (S0 a0 a1 v0_2_)) a0 a1) (by kernel_rfl) (congrArg (fun l => Fm call k l a0 a1) (funext fun a0 => funext fun a1 => funext fun v0_2_ => L0_eq call k (fun _ _ => none) a0 a1 k v0_2_))
end laws_likeInts
/-! #### spec_l1New -/
namespace spec_l1New
abbrev R := ((((List Int) × (Int × (Int × Unit))) × Unit) × Unit)
def S0 (a0 : (List Int)) (v0_1 : Int) (v0_2 : Int) : St := ⟨mkS 28 [(0, .v (.slc (.int .u8)) (a0)), (3, .v (.int .i64) v0_1), (4, .v (.int .i64) v0_2)], []⟩
def step0 (call : Cl) (k : Nat) (a0 : (List Int))   (r0 : (Int) → (Int) → Option R) (v0_1 : Int) (v0_2 : Int) : Option R :=
    bif decide (v0_2 < (↑a0.length : Int)) then
    bif decide ((0 : Int) ≤ v0_2) then
      (lget a0 v0_2.toNat).bind fun (y0 : Int) =>
        r0
          (bitsI BinOp.and IntKind.i64
            (IntKind.i64.wrap
              (IntKind.i64.wrap (IntKind.i64.wrap (v0_1 * (181 : Int)) + IntKind.i64.wrap y0) + (11 : Int)))
            (1073741823 : Int))
          (IntKind.i64.wrap (v0_2 + (1 : Int)))
    else none
  else some (((a0, (0 : Int), v0_1, ()), ()), ())
def L0 (call : Cl) (k : Nat) (a0 : (List Int))  : Nat → (Int) → (Int) → Option R
    | 0, _, _ => none
    | n + 1, v0_1, v0_2 => step0 call k a0   (L0 call k a0  n) v0_1 v0_2
def Fm (call : Cl) (k : Nat) (l0 : ((List Int)) → (Int) → (Int) → Option R) (a0 : (List Int)) : Option R :=
    l0 a0 (IntKind.i64.wrap ((141421 : Int) + (↑a0.length : Int))) (0 : Int)
def F (call : Cl) (k : Nat) (a0 : (List Int)) : Option R := Fm call k (fun a0_ v0_1_ v0_2_ => L0 call k a0_ k v0_1_ v0_2_) a0
theorem L0_eq (call : Cl) (k : Nat) (J : Nat → St → Option R) (a0 : (List Int)) : ∀ (n : Nat) (x : YC_1), siteI E call n_spec_l1New k s_spec_l1New (a0, ()) J 0 n (S0 a0 x.1 x.2) = L0 call k a0  n x.1 x.2 := by
  refine loop_eq (E := E) (call := call) (f := n_spec_l1New) (k := k) (s := s_spec_l1New) (l := (a0, ())) (J := J) (i := 0) (X := YC_1) (fun x => S0 a0 x.1 x.2) (fun n x => L0 call k a0  n x.1 x.2) (fun r x => step0 call k a0   (fun v0_1 v0_2 => r (v0_1, v0_2)) x.1 x.2) ?_ ?_ ?_
  · intro x; rfl
  · intro n x; rfl
  intro J0 x
  kernel_rfl
theorem F_eq (call : Cl) (k : Nat) (a0 : (List Int)) : bodyK E call n_spec_l1New k s_spec_l1New (a0, ()) = F call k a0 := by
  exact Eq.trans (b := Fm call k (fun a0 v0_1_ v0_2_ => siteI E call n_spec_l1New k s_spec_l1New (a0, ()) (fun _ _ => none) 0 k (S0 a0 v0_1_ v0_2_)) a0) (by kernel_rfl) (congrArg (fun l => Fm call k l a0) (funext fun a0 => funext fun v0_1_ => funext fun v0_2_ => L0_eq call k (fun _ _ => none) a0 k (v0_1_, v0_2_)))
end spec_l1New
/-! #### spec_l1Byte -/
namespace spec_l1Byte
abbrev R := ((Int × Unit) × (((List Int) × (Int × (Int × Unit))) × Unit))
def Fm (call : Cl) (k : Nat)  (a0 : ((List Int) × (Int × (Int × Unit)))) : Option R :=
    bif decide (a0.snd.fst < (↑(List.length a0.fst) : Int)) then
    bif decide ((0 : Int) ≤ a0.snd.fst) then
      (lget a0.fst (Int.toNat a0.snd.fst)).bind fun (y0 : Int) =>
        some
          ((bitsI BinOp.and IntKind.i64
                (IntKind.i64.wrap
                  (bitsI BinOp.and IntKind.i64
                      (bitsI BinOp.xor IntKind.i64
                        (shrI IntKind.i64
                          (IntKind.i64.wrap
                            (IntKind.i64.wrap (a0.snd.snd.fst * (6364136223846793005 : Int)) +
                              (1442695040888963407 : Int)))
                          (33 : Int))
                        (shrI IntKind.i64
                          (IntKind.i64.wrap
                            (IntKind.i64.wrap (a0.snd.snd.fst * (6364136223846793005 : Int)) +
                              (1442695040888963407 : Int)))
                          (45 : Int)))
                      (255 : Int) +
                    IntKind.i64.wrap y0))
                (255 : Int),
              ()),
            (a0.fst, IntKind.i64.wrap (a0.snd.fst + (1 : Int)),
              IntKind.i64.wrap
                (IntKind.i64.wrap (a0.snd.snd.fst * (6364136223846793005 : Int)) + (1442695040888963407 : Int)),
              a0.snd.snd.snd),
            ())
    else none
  else
    some
      ((bitsI BinOp.and IntKind.i64
            (bitsI BinOp.xor IntKind.i64
              (shrI IntKind.i64
                (IntKind.i64.wrap
                  (IntKind.i64.wrap (a0.snd.snd.fst * (6364136223846793005 : Int)) + (1442695040888963407 : Int)))
                (33 : Int))
              (shrI IntKind.i64
                (IntKind.i64.wrap
                  (IntKind.i64.wrap (a0.snd.snd.fst * (6364136223846793005 : Int)) + (1442695040888963407 : Int)))
                (45 : Int)))
            (255 : Int),
          ()),
        (a0.fst, a0.snd.fst,
          IntKind.i64.wrap
            (IntKind.i64.wrap (a0.snd.snd.fst * (6364136223846793005 : Int)) + (1442695040888963407 : Int)),
          a0.snd.snd.snd),
        ())
def F (call : Cl) (k : Nat) (a0 : ((List Int) × (Int × (Int × Unit)))) : Option R := Fm call k  a0
theorem F_eq (call : Cl) (k : Nat) (a0 : YC_0) : bodyK E call n_spec_l1Byte k s_spec_l1Byte (a0, ()) = F call k a0 := by
  kernel_rfl
end spec_l1Byte
/-! #### spec_l1Below -/
namespace spec_l1Below
abbrev R := ((Int × Unit) × (((List Int) × (Int × (Int × Unit))) × Unit))
def Fm (call : Cl) (k : Nat)  (a0 : ((List Int) × (Int × (Int × Unit)))) (a1 : Int) : Option R :=
    bif decide (a1 ≤ (0 : Int)) then some (((0 : Int), ()), (a0.fst, a0.snd.fst, a0.snd.snd.fst, a0.snd.snd.snd), ())
  else
    bif decide (a1 ≤ (256 : Int)) then
      (call (163 : Nat) s_spec_l1Byte ((a0.fst, a0.snd.fst, a0.snd.snd.fst, a0.snd.snd.snd), ())).bind
        fun (y0 : (Int × PUnit) × (List Int × Int × Int × PUnit) × PUnit) =>
        bif decide (a1 = (0 : Int)) then none
        else
          some
            ((Int.tmod y0.fst.fst a1, ()),
              (y0.snd.fst.fst, y0.snd.fst.snd.fst, y0.snd.fst.snd.snd.fst, y0.snd.fst.snd.snd.snd), ())
    else
      (call (163 : Nat) s_spec_l1Byte ((a0.fst, a0.snd.fst, a0.snd.snd.fst, a0.snd.snd.snd), ())).bind
        fun (y1 : (Int × PUnit) × (List Int × Int × Int × PUnit) × PUnit) =>
        (call (163 : Nat) s_spec_l1Byte
              ((y1.snd.fst.fst, y1.snd.fst.snd.fst, y1.snd.fst.snd.snd.fst, y1.snd.fst.snd.snd.snd), ())).bind
          fun (y2 : (Int × PUnit) × (List Int × Int × Int × PUnit) × PUnit) =>
          (call (163 : Nat) s_spec_l1Byte
                ((y2.snd.fst.fst, y2.snd.fst.snd.fst, y2.snd.fst.snd.snd.fst, y2.snd.fst.snd.snd.snd), ())).bind
            fun (y3 : (Int × PUnit) × (List Int × Int × Int × PUnit) × PUnit) =>
            (call (163 : Nat) s_spec_l1Byte
                  ((y3.snd.fst.fst, y3.snd.fst.snd.fst, y3.snd.fst.snd.snd.fst, y3.snd.fst.snd.snd.snd), ())).bind
              fun (y4 : (Int × PUnit) × (List Int × Int × Int × PUnit) × PUnit) =>
              bif decide (a1 = (0 : Int)) then none
              else
                some
                  (((IntKind.i64.wrap
                            (IntKind.i64.wrap
                                (IntKind.i64.wrap
                                    (IntKind.i64.wrap (y1.fst.fst * (16777216 : Int)) +
                                      IntKind.i64.wrap (y2.fst.fst * (65536 : Int))) +
                                  IntKind.i64.wrap (y3.fst.fst * (256 : Int))) +
                              y4.fst.fst)).tmod
                        a1,
                      ()),
                    (y4.snd.fst.fst, y4.snd.fst.snd.fst, y4.snd.fst.snd.snd.fst, y4.snd.fst.snd.snd.snd), ())
def F (call : Cl) (k : Nat) (a0 : ((List Int) × (Int × (Int × Unit)))) (a1 : Int) : Option R := Fm call k  a0 a1
theorem F_eq (call : Cl) (k : Nat) (a0 : YC_0) (a1 : Int) : bodyK E call n_spec_l1Below k s_spec_l1Below (a0, a1, ()) = F call k a0 a1 := by
  kernel_rfl
end spec_l1Below
/-! #### spec_l1Once -/
namespace spec_l1Once
abbrev R := ((Bool × Unit) × (((List Int) × (Int × (Int × Unit))) × Unit))
def Fm (call : Cl) (k : Nat)  (a0 : ((List Int) × (Int × (Int × Unit)))) (a1 : Int) : Option R :=
    (call (144 : Nat) s_spec_l1Below ((a0.fst, a0.snd.fst, a0.snd.snd.fst, a0.snd.snd.snd), a1, ())).bind
    fun (y0 : (Int × PUnit) × (List Int × Int × Int × PUnit) × PUnit) =>
    some
      ((y0.fst.fst == (0 : Int), ()),
        (y0.snd.fst.fst, y0.snd.fst.snd.fst, y0.snd.fst.snd.snd.fst, y0.snd.fst.snd.snd.snd), ())
def F (call : Cl) (k : Nat) (a0 : ((List Int) × (Int × (Int × Unit)))) (a1 : Int) : Option R := Fm call k  a0 a1
theorem F_eq (call : Cl) (k : Nat) (a0 : YC_0) (a1 : Int) : bodyK E call n_spec_l1Once k s_spec_l1Once (a0, a1, ()) = F call k a0 a1 := by
  kernel_rfl
end spec_l1Once
/-! #### spec_l1From -/
namespace spec_l1From
abbrev R := ((Int × Unit) × (((List Int) × (Int × (Int × Unit))) × Unit))
def Fm (call : Cl) (k : Nat)  (a0 : ((List Int) × (Int × (Int × Unit)))) (a1 : Int) (a2 : Int) : Option R :=
    (call (144 : Nat) s_spec_l1Below
        ((a0.fst, a0.snd.fst, a0.snd.snd.fst, a0.snd.snd.snd), IntKind.i64.wrap (IntKind.i64.wrap (a2 - a1) + (1 : Int)),
          ())).bind
    fun (y0 : (Int × PUnit) × (List Int × Int × Int × PUnit) × PUnit) =>
    some
      ((IntKind.i64.wrap (a1 + y0.fst.fst), ()),
        (y0.snd.fst.fst, y0.snd.fst.snd.fst, y0.snd.fst.snd.snd.fst, y0.snd.fst.snd.snd.snd), ())
def F (call : Cl) (k : Nat) (a0 : ((List Int) × (Int × (Int × Unit)))) (a1 : Int) (a2 : Int) : Option R := Fm call k  a0 a1 a2
theorem F_eq (call : Cl) (k : Nat) (a0 : YC_0) (a1 : Int) (a2 : Int) : bodyK E call n_spec_l1From k s_spec_l1From (a0, a1, a2, ()) = F call k a0 a1 a2 := by
  kernel_rfl
end spec_l1From
/-! #### spec_l1Num -/
namespace spec_l1Num
abbrev R := ((Int × Unit) × (((List Int) × (Int × (Int × Unit))) × Unit))
def Fm (call : Cl) (k : Nat)  (a0 : ((List Int) × (Int × (Int × Unit)))) (a1 : Int) : Option R :=
    (call (131 : Nat) s_spec_l1Once ((a0.fst, a0.snd.fst, a0.snd.snd.fst, a0.snd.snd.snd), (10 : Int), ())).bind
    fun (y0 : (Bool × PUnit) × (List Int × Int × Int × PUnit) × PUnit) =>
    bif y0.fst.fst then
      (call (161 : Nat) s_spec_l1Odd
            ((y0.snd.fst.fst, y0.snd.fst.snd.fst, y0.snd.fst.snd.snd.fst, y0.snd.fst.snd.snd.snd), ())).bind
        fun (y1 : (Int × PUnit) × (List Int × Int × Int × PUnit) × PUnit) =>
        (call (144 : Nat) s_spec_l1Below
              ((y1.snd.fst.fst, y1.snd.fst.snd.fst, y1.snd.fst.snd.snd.fst, y1.snd.fst.snd.snd.snd), (4 : Int), ())).bind
          fun (y2 : (Int × PUnit) × (List Int × Int × Int × PUnit) × PUnit) =>
          bif
              decide ((0 : Int) ≤ y2.fst.fst) &&
                decide
                  (Int.toNat y2.fst.fst < [(-1 : Int), a1, IntKind.i64.wrap (a1 + (1 : Int)), y1.fst.fst].length) then
            (lget [(-1 : Int), a1, IntKind.i64.wrap (a1 + (1 : Int)), y1.fst.fst] (Int.toNat y2.fst.fst)).bind
              fun (y3 : Int) =>
              some ((y3, ()), (y2.snd.fst.fst, y2.snd.fst.snd.fst, y2.snd.fst.snd.snd.fst, y2.snd.fst.snd.snd.snd), ())
          else none
    else
      (call (131 : Nat) s_spec_l1Once
            ((y0.snd.fst.fst, y0.snd.fst.snd.fst, y0.snd.fst.snd.snd.fst, y0.snd.fst.snd.snd.snd), (2 : Int), ())).bind
        fun (y4 : (Bool × PUnit) × (List Int × Int × Int × PUnit) × PUnit) =>
        bif y4.fst.fst then
          (call (164 : Nat) s_spec_l1Min (a1, (4 : Int), ())).bind fun (y5 : (Int × PUnit) × PUnit) =>
            (call (144 : Nat) s_spec_l1Below
                  ((y4.snd.fst.fst, y4.snd.fst.snd.fst, y4.snd.fst.snd.snd.fst, y4.snd.fst.snd.snd.snd),
                    IntKind.i64.wrap (y5.fst.fst + (1 : Int)), ())).bind
              fun (y6 : (Int × PUnit) × (List Int × Int × Int × PUnit) × PUnit) =>
              some
                ((y6.fst.fst, ()), (y6.snd.fst.fst, y6.snd.fst.snd.fst, y6.snd.fst.snd.snd.fst, y6.snd.fst.snd.snd.snd),
                  ())
        else
          (call (144 : Nat) s_spec_l1Below
                ((y4.snd.fst.fst, y4.snd.fst.snd.fst, y4.snd.fst.snd.snd.fst, y4.snd.fst.snd.snd.snd),
                  IntKind.i64.wrap (a1 + (1 : Int)), ())).bind
            fun (y7 : (Int × PUnit) × (List Int × Int × Int × PUnit) × PUnit) =>
            some
              ((y7.fst.fst, ()), (y7.snd.fst.fst, y7.snd.fst.snd.fst, y7.snd.fst.snd.snd.fst, y7.snd.fst.snd.snd.snd), ())
def F (call : Cl) (k : Nat) (a0 : ((List Int) × (Int × (Int × Unit)))) (a1 : Int) : Option R := Fm call k  a0 a1
theorem F_eq (call : Cl) (k : Nat) (a0 : YC_0) (a1 : Int) : bodyK E call n_spec_l1Num k s_spec_l1Num (a0, a1, ()) = F call k a0 a1 := by
  kernel_rfl
end spec_l1Num
/-! #### spec_l1Odd -/
namespace spec_l1Odd
abbrev R := ((Int × Unit) × (((List Int) × (Int × (Int × Unit))) × Unit))
def Fm (call : Cl) (k : Nat)  (a0 : ((List Int) × (Int × (Int × Unit)))) : Option R :=
    (call (144 : Nat) s_spec_l1Below ((a0.fst, a0.snd.fst, a0.snd.snd.fst, a0.snd.snd.snd), (10 : Int), ())).bind
    fun (y0 : (Int × PUnit) × (List Int × Int × Int × PUnit) × PUnit) =>
    bif
        decide ((0 : Int) ≤ y0.fst.fst) &&
          decide
            (Int.toNat y0.fst.fst <
              [(-1 : Int), (0 : Int), (1 : Int), (2147483648 : Int), (-2147483648 : Int), (1099511627776 : Int),
                  (4611686018427387904 : Int), (-4611686018427387904 : Int), (9223372036854775807 : Int),
                  (-9223372036854775808 : Int)].length) then
      (lget
            [(-1 : Int), (0 : Int), (1 : Int), (2147483648 : Int), (-2147483648 : Int), (1099511627776 : Int),
              (4611686018427387904 : Int), (-4611686018427387904 : Int), (9223372036854775807 : Int),
              (-9223372036854775808 : Int)]
            (Int.toNat y0.fst.fst)).bind
        fun (y1 : Int) =>
        some ((y1, ()), (y0.snd.fst.fst, y0.snd.fst.snd.fst, y0.snd.fst.snd.snd.fst, y0.snd.fst.snd.snd.snd), ())
    else none
def F (call : Cl) (k : Nat) (a0 : ((List Int) × (Int × (Int × Unit)))) : Option R := Fm call k  a0
theorem F_eq (call : Cl) (k : Nat) (a0 : YC_0) : bodyK E call n_spec_l1Odd k s_spec_l1Odd (a0, ()) = F call k a0 := by
  kernel_rfl
end spec_l1Odd
/-! #### spec_l1Min -/
namespace spec_l1Min
abbrev R := ((Int × Unit) × Unit)
def Fm (call : Cl) (k : Nat)  (a0 : Int) (a1 : Int) : Option R :=
    bif decide (a0 < a1) then some ((a0, ()), ()) else some ((a1, ()), ())
def F (call : Cl) (k : Nat) (a0 : Int) (a1 : Int) : Option R := Fm call k  a0 a1
theorem F_eq (call : Cl) (k : Nat) (a0 : Int) (a1 : Int) : bodyK E call n_spec_l1Min k s_spec_l1Min (a0, a1, ()) = F call k a0 a1 := by
  kernel_rfl
end spec_l1Min
end Go.Proofs.Ytcmgjdmhemfecaa.Pf
