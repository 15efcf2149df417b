/- Printed texts: what the reading of these functions is. No condition. -/
import Derived.Test.YtbalepejjjmioaaDoorPvEnv
import Derived.KernelRfl
set_option linter.unusedVariables false
namespace Go.Proofs.YtbalepejjjmioaaDoor.Pf
open Go Go.Pv
abbrev Y0_0 := ((Int) × ((List ByteArray)))
abbrev Y0_1 := (List ByteArray)
/-! #### spec_l1Int -/
namespace spec_l1Int
abbrev R := ((ByteArray × Unit) × Unit)
def S0 (a0 : Int) (v0_0 : Int) (v0_1 : ByteArray) : St := ⟨mkS 33 [(0, .v (.int .i64) v0_0), (3, .v .str v0_1), (4, .v .bool (decide (a0 < (0 : Int))))], []⟩
def step0 (call : Cl) (k : Nat) (a0 : Int)   (r0 : (Int) → (ByteArray) → Option R) (v0_0 : Int) (v0_1 : ByteArray) : Option R :=
    bif v0_1.toList == (ByteArray.mk #[]).toList then
    bif decide (v0_0.tmod (10 : Int) < (0 : Int)) then
      bif
          decide
            ((bytesOf
                    [IntKind.u8.wrap
                        (IntKind.i64.wrap ((48 : Int) + IntKind.i64.wrap ((0 : Int) - v0_0.tmod (10 : Int))))]).size +
                v0_1.size ≤
              (9223372036854775807 : Nat)) then
        r0 (IntKind.i64.wrap (v0_0.tdiv (10 : Int)))
          (bytesOf
              [IntKind.u8.wrap (IntKind.i64.wrap ((48 : Int) + IntKind.i64.wrap ((0 : Int) - v0_0.tmod (10 : Int))))] ++
            v0_1)
      else none
    else
      bif
          decide
            ((bytesOf [IntKind.u8.wrap (IntKind.i64.wrap ((48 : Int) + v0_0.tmod (10 : Int)))]).size + v0_1.size ≤
              (9223372036854775807 : Nat)) then
        r0 (IntKind.i64.wrap (v0_0.tdiv (10 : Int)))
          (bytesOf [IntKind.u8.wrap (IntKind.i64.wrap ((48 : Int) + v0_0.tmod (10 : Int)))] ++ v0_1)
      else none
  else
    bif v0_0 != (0 : Int) then
      bif decide (v0_0.tmod (10 : Int) < (0 : Int)) then
        bif
            decide
              ((bytesOf
                      [IntKind.u8.wrap
                          (IntKind.i64.wrap ((48 : Int) + IntKind.i64.wrap ((0 : Int) - v0_0.tmod (10 : Int))))]).size +
                  v0_1.size ≤
                (9223372036854775807 : Nat)) then
          r0 (IntKind.i64.wrap (v0_0.tdiv (10 : Int)))
            (bytesOf
                [IntKind.u8.wrap (IntKind.i64.wrap ((48 : Int) + IntKind.i64.wrap ((0 : Int) - v0_0.tmod (10 : Int))))] ++
              v0_1)
        else none
      else
        bif
            decide
              ((bytesOf [IntKind.u8.wrap (IntKind.i64.wrap ((48 : Int) + v0_0.tmod (10 : Int)))]).size + v0_1.size ≤
                (9223372036854775807 : Nat)) then
          r0 (IntKind.i64.wrap (v0_0.tdiv (10 : Int)))
            (bytesOf [IntKind.u8.wrap (IntKind.i64.wrap ((48 : Int) + v0_0.tmod (10 : Int)))] ++ v0_1)
        else none
    else
      bif decide (a0 < (0 : Int)) then
        bif decide ((ByteArray.mk #[(45 : UInt8)]).size + v0_1.size ≤ (9223372036854775807 : Nat)) then
          some (((ByteArray.mk #[(45 : UInt8)]) ++ v0_1, ()), ())
        else none
      else some ((v0_1, ()), ())
def L0 (call : Cl) (k : Nat) (a0 : Int)  : Nat → (Int) → (ByteArray) → Option R
    | 0, _, _ => none
    | n + 1, v0_0, v0_1 => step0 call k a0   (L0 call k a0  n) v0_0 v0_1
def Fm (call : Cl) (k : Nat) (l0 : (Int) → (Int) → (ByteArray) → Option R) (a0 : Int) : Option R :=
    l0 a0 a0 (ByteArray.mk #[])
def F (call : Cl) (k : Nat) (a0 : Int) : Option R := Fm call k (fun a0_ v0_0_ v0_1_ => L0 call k a0_ k v0_0_ v0_1_) a0
theorem L0_eq (call : Cl) (k : Nat) (J : Nat → St → Option R) (a0 : Int) : ∀ (n : Nat) (x : ((Int) × (ByteArray))), siteI E call n_spec_l1Int k s_spec_l1Int (a0, ()) J 0 n (S0 a0 x.1 x.2) = L0 call k a0  n x.1 x.2 := by
  refine loop_eq (E := E) (call := call) (f := n_spec_l1Int) (k := k) (s := s_spec_l1Int) (l := (a0, ())) (J := J) (i := 0) (X := ((Int) × (ByteArray))) (fun x => S0 a0 x.1 x.2) (fun n x => L0 call k a0  n x.1 x.2) (fun r x => step0 call k a0   (fun v0_0 v0_1 => r (v0_0, v0_1)) x.1 x.2) ?_ ?_ ?_
  · intro x; rfl
  · intro n x; rfl
  intro J0 x
  kernel_rfl
theorem F_eq (call : Cl) (k : Nat) (a0 : Int) : bodyK E call n_spec_l1Int k s_spec_l1Int (a0, ()) = F call k a0 := by
  exact Eq.trans (b := Fm call k (fun a0 v0_0_ v0_1_ => siteI E call n_spec_l1Int k s_spec_l1Int (a0, ()) (fun _ _ => none) 0 k (S0 a0 v0_0_ v0_1_)) a0) (by kernel_rfl) (congrArg (fun l => Fm call k l a0) (funext fun a0 => funext fun v0_0_ => funext fun v0_1_ => L0_eq call k (fun _ _ => none) a0 k (v0_0_, v0_1_)))
end spec_l1Int
/-! #### spec_l1Ints -/
namespace spec_l1Ints
abbrev R := ((ByteArray × Unit) × Unit)
def S0 (a0 : (List Int)) (v0_1 : Int) (v0_2 : Y0_1) : St := ⟨mkS 22 [(0, .v (.slc (.int .i64)) (a0)), (3, .ref [3]), (4, .v (.int .i64) v0_1)], [([3], .list 9 .str v0_2)]⟩
def step0 (call : Cl) (k : Nat) (a0 : (List Int))   (r0 : (Int) → ((List ByteArray)) → Option R) (v0_1 : Int) (v0_2 : (List ByteArray)) : Option R :=
    bif decide (v0_1 < (↑a0.length : Int)) then
    bif decide ((0 : Int) ≤ v0_1) then
      (lget a0 v0_1.toNat).bind fun (y0 : Int) =>
        (call (17 : Nat) s_spec_l1Int (y0, ())).bind fun (y1 : (ByteArray × PUnit) × PUnit) =>
          bif decide ((v0_2.length + [y1.fst.fst].length) * ti9.bytes ≤ (140737488355328 : Nat)) then
            r0 (IntKind.i64.wrap (v0_1 + (1 : Int))) (v0_2 ++ [y1.fst.fst])
          else none
    else none
  else
    (call (29 : Nat) s_spec_l1Words (v0_2, (ByteArray.mk #[(32 : UInt8)]), ())).bind
      fun (y2 : (ByteArray × PUnit) × PUnit) => some ((y2.fst.fst, ()), ())
def L0 (call : Cl) (k : Nat) (a0 : (List Int))  : Nat → (Int) → ((List ByteArray)) → Option R
    | 0, _, _ => none
    | n + 1, v0_1, v0_2 => step0 call k a0   (L0 call k a0  n) v0_1 v0_2
def Fm (call : Cl) (k : Nat) (l0 : ((List Int)) → (Int) → ((List ByteArray)) → Option R) (a0 : (List Int)) : Option R :=
    l0 a0 (0 : Int) []
def F (call : Cl) (k : Nat) (a0 : (List Int)) : Option R := Fm call k (fun a0_ v0_1_ v0_2_ => L0 call k a0_ k v0_1_ v0_2_) a0
theorem L0_eq (call : Cl) (k : Nat) (J : Nat → St → Option R) (a0 : (List Int)) : ∀ (n : Nat) (x : Y0_0), siteI E call n_spec_l1Ints k s_spec_l1Ints (a0, ()) J 0 n (S0 a0 x.1 x.2) = L0 call k a0  n x.1 x.2 := by
  refine loop_eq (E := E) (call := call) (f := n_spec_l1Ints) (k := k) (s := s_spec_l1Ints) (l := (a0, ())) (J := J) (i := 0) (X := Y0_0) (fun x => S0 a0 x.1 x.2) (fun n x => L0 call k a0  n x.1 x.2) (fun r x => step0 call k a0   (fun v0_1 v0_2 => r (v0_1, v0_2)) x.1 x.2) ?_ ?_ ?_
  · intro x; rfl
  · intro n x; rfl
  intro J0 x
  kernel_rfl
theorem F_eq (call : Cl) (k : Nat) (a0 : (List Int)) : bodyK E call n_spec_l1Ints k s_spec_l1Ints (a0, ()) = F call k a0 := by
  exact Eq.trans (b := Fm call k (fun a0 v0_1_ v0_2_ => siteI E call n_spec_l1Ints k s_spec_l1Ints (a0, ()) (fun _ _ => none) 0 k (S0 a0 v0_1_ v0_2_)) a0) (by kernel_rfl) (congrArg (fun l => Fm call k l a0) (funext fun a0 => funext fun v0_1_ => funext fun v0_2_ => L0_eq call k (fun _ _ => none) a0 k (v0_1_, v0_2_)))
end spec_l1Ints
/-! #### spec_l1Words -/
namespace spec_l1Words
abbrev R := ((ByteArray × Unit) × Unit)
def S0 (a0 : Y0_1) (a1 : ByteArray) (v0_2 : ByteArray) (v0_3 : Int) : St := ⟨mkS 25 [(0, .v (.slc .str) (a0)), (1, .v .str (a1)), (5, .v .str v0_2), (6, .v (.int .i64) v0_3)], []⟩
def step0 (call : Cl) (k : Nat) (a0 : (List ByteArray)) (a1 : ByteArray)   (r0 : (ByteArray) → (Int) → Option R) (v0_2 : ByteArray) (v0_3 : Int) : Option R :=
    bif decide (v0_3 < (↑a0.length : Int)) then
    bif decide (v0_3 > (0 : Int)) then
      bif decide (v0_2.size + a1.size ≤ (9223372036854775807 : Nat)) then
        bif decide ((0 : Int) ≤ v0_3) then
          (lget a0 v0_3.toNat).bind fun (y0 : ByteArray) =>
            bif decide ((v0_2 ++ a1).size + y0.size ≤ (9223372036854775807 : Nat)) then
              r0 (v0_2 ++ a1 ++ y0) (IntKind.i64.wrap (v0_3 + (1 : Int)))
            else none
        else none
      else none
    else
      bif decide ((0 : Int) ≤ v0_3) then
        (lget a0 v0_3.toNat).bind fun (y1 : ByteArray) =>
          bif decide (v0_2.size + y1.size ≤ (9223372036854775807 : Nat)) then
            r0 (v0_2 ++ y1) (IntKind.i64.wrap (v0_3 + (1 : Int)))
          else none
      else none
  else some ((v0_2, ()), ())
def L0 (call : Cl) (k : Nat) (a0 : (List ByteArray)) (a1 : ByteArray)  : Nat → (ByteArray) → (Int) → Option R
    | 0, _, _ => none
    | n + 1, v0_2, v0_3 => step0 call k a0 a1   (L0 call k a0 a1  n) v0_2 v0_3
def Fm (call : Cl) (k : Nat) (l0 : ((List ByteArray)) → (ByteArray) → (ByteArray) → (Int) → Option R) (a0 : (List ByteArray)) (a1 : ByteArray) : Option R :=
    l0 a0 a1 (ByteArray.mk #[]) (0 : Int)
def F (call : Cl) (k : Nat) (a0 : (List ByteArray)) (a1 : ByteArray) : Option R := Fm call k (fun a0_ a1_ v0_2_ v0_3_ => L0 call k a0_ a1_ k v0_2_ v0_3_) a0 a1
theorem L0_eq (call : Cl) (k : Nat) (J : Nat → St → Option R) (a0 : Y0_1) (a1 : ByteArray) : ∀ (n : Nat) (x : ((ByteArray) × (Int))), siteI E call n_spec_l1Words k s_spec_l1Words (a0, a1, ()) J 0 n (S0 a0 a1 x.1 x.2) = L0 call k a0 a1  n x.1 x.2 := by
  refine loop_eq (E := E) (call := call) (f := n_spec_l1Words) (k := k) (s := s_spec_l1Words) (l := (a0, a1, ())) (J := J) (i := 0) (X := ((ByteArray) × (Int))) (fun x => S0 a0 a1 x.1 x.2) (fun n x => L0 call k a0 a1  n x.1 x.2) (fun r x => step0 call k a0 a1   (fun v0_2 v0_3 => r (v0_2, v0_3)) x.1 x.2) ?_ ?_ ?_
  · intro x; rfl
  · intro n x; rfl
  intro J0 x
  kernel_rfl
theorem F_eq (call : Cl) (k : Nat) (a0 : Y0_1) (a1 : ByteArray) : bodyK E call n_spec_l1Words k s_spec_l1Words (a0, a1, ()) = F call k a0 a1 := by
  exact Eq.trans (b := Fm call k (fun a0 a1 v0_2_ v0_3_ => siteI E call n_spec_l1Words k s_spec_l1Words (a0, a1, ()) (fun _ _ => none) 0 k (S0 a0 a1 v0_2_ v0_3_)) a0 a1) (by kernel_rfl) (congrArg (fun l => Fm call k l a0 a1) (funext fun a0 => funext fun a1 => funext fun v0_2_ => funext fun v0_3_ => L0_eq call k (fun _ _ => none) a0 a1 k (v0_2_, v0_3_)))
end spec_l1Words
/-! #### impl_digits -/
namespace impl_digits
abbrev R := ((ByteArray × Unit) × Unit)
def Fm (call : Cl) (k : Nat)  (a0 : Int) : Option R :=
    (call (31 : Nat) s_strconv_FormatInt (a0, (10 : Int), ())).bind fun (y0 : (ByteArray × PUnit) × PUnit) =>
    some ((y0.fst.fst, ()), ())
def F (call : Cl) (k : Nat) (a0 : Int) : Option R := Fm call k  a0
theorem F_eq (call : Cl) (k : Nat) (a0 : Int) : bodyK E call n_impl_digits k s_impl_digits (a0, ()) = F call k a0 := by
  kernel_rfl
end impl_digits
/-! #### impl_spaced -/
namespace impl_spaced
abbrev R := ((ByteArray × Unit) × Unit)
def S0 (a0 : (List Int)) (v0_2 : Int) (v0_3 : Y0_1) : St := ⟨mkS 21 [(3, .ref [3]), (7, .v (.slc (.int .i64)) (a0)), (8, .v (.int .i64) ((↑a0.length : Int))), (9, .v (.int .i64) v0_2)], [([3], .list 9 .str v0_3)]⟩
def step0 (call : Cl) (k : Nat) (a0 : (List Int))   (r0 : (Int) → ((List ByteArray)) → Option R) (v0_2 : Int) (v0_3 : (List ByteArray)) : Option R :=
    bif decide (v0_2 < (↑a0.length : Int)) then
    bif decide ((0 : Int) ≤ v0_2) then
      (lget a0 v0_2.toNat).bind fun (y0 : Int) =>
        (call (20 : Nat) s_impl_digits (y0, ())).bind fun (y1 : (ByteArray × PUnit) × PUnit) =>
          bif decide ((v0_3.length + [y1.fst.fst].length) * ti9.bytes ≤ (140737488355328 : Nat)) then
            r0 (IntKind.i64.wrap (v0_2 + (1 : Int))) (v0_3 ++ [y1.fst.fst])
          else none
    else none
  else
    (call (30 : Nat) s_strings_Join (v0_3, (ByteArray.mk #[(32 : UInt8)]), ())).bind
      fun (y2 : (ByteArray × PUnit) × PUnit) => some ((y2.fst.fst, ()), ())
def L0 (call : Cl) (k : Nat) (a0 : (List Int))  : Nat → (Int) → ((List ByteArray)) → Option R
    | 0, _, _ => none
    | n + 1, v0_2, v0_3 => step0 call k a0   (L0 call k a0  n) v0_2 v0_3
def Fm (call : Cl) (k : Nat) (l0 : ((List Int)) → (Int) → ((List ByteArray)) → Option R) (a0 : (List Int)) : Option R :=
    l0 a0 (0 : Int) []
def F (call : Cl) (k : Nat) (a0 : (List Int)) : Option R := Fm call k (fun a0_ v0_2_ v0_3_ => L0 call k a0_ k v0_2_ v0_3_) a0
theorem L0_eq (call : Cl) (k : Nat) (J : Nat → St → Option R) (a0 : (List Int)) : ∀ (n : Nat) (x : Y0_0), siteI E call n_impl_spaced k s_impl_spaced (a0, ()) J 0 n (S0 a0 x.1 x.2) = L0 call k a0  n x.1 x.2 := by
  refine loop_eq (E := E) (call := call) (f := n_impl_spaced) (k := k) (s := s_impl_spaced) (l := (a0, ())) (J := J) (i := 0) (X := Y0_0) (fun x => S0 a0 x.1 x.2) (fun n x => L0 call k a0  n x.1 x.2) (fun r x => step0 call k a0   (fun v0_2 v0_3 => r (v0_2, v0_3)) x.1 x.2) ?_ ?_ ?_
  · intro x; rfl
  · intro n x; rfl
  intro J0 x
  kernel_rfl
theorem F_eq (call : Cl) (k : Nat) (a0 : (List Int)) : bodyK E call n_impl_spaced k s_impl_spaced (a0, ()) = F call k a0 := by
  exact Eq.trans (b := Fm call k (fun a0 v0_2_ v0_3_ => siteI E call n_impl_spaced k s_impl_spaced (a0, ()) (fun _ _ => none) 0 k (S0 a0 v0_2_ v0_3_)) a0) (by kernel_rfl) (congrArg (fun l => Fm call k l a0) (funext fun a0 => funext fun v0_2_ => funext fun v0_3_ => L0_eq call k (fun _ _ => none) a0 k (v0_2_, v0_3_)))
end impl_spaced
/-! #### impl_yesNo -/
namespace impl_yesNo
abbrev R := ((ByteArray × Unit) × Unit)
def Fm (call : Cl) (k : Nat)  (a0 : Bool) : Option R :=
    bif a0 then some (((ByteArray.mk #[(121 : UInt8), (101 : UInt8), (115 : UInt8)]), ()), ())
  else some (((ByteArray.mk #[(110 : UInt8), (111 : UInt8)]), ()), ())
def F (call : Cl) (k : Nat) (a0 : Bool) : Option R := Fm call k  a0
theorem F_eq (call : Cl) (k : Nat) (a0 : Bool) : bodyK E call n_impl_yesNo k s_impl_yesNo (a0, ()) = F call k a0 := by
  kernel_rfl
end impl_yesNo
/-! #### impl_lineText -/
namespace impl_lineText
abbrev R := ((ByteArray × Unit) × Unit)
def Fm (call : Cl) (k : Nat)  (a0 : ByteArray) (a1 : (Int × (Int × (Int × (Bool × Unit))))) : Option R :=
    bif decide (a0.size + (ByteArray.mk #[(32 : UInt8)]).size ≤ (9223372036854775807 : Nat)) then
    (call (19 : Nat) s_impl_spaced ([a1.fst, a1.snd.fst, a1.snd.snd.fst], ())).bind
      fun (y0 : (ByteArray × PUnit) × PUnit) =>
      bif decide ((a0 ++ (ByteArray.mk #[(32 : UInt8)])).size + ByteArray.size y0.fst.fst ≤ (9223372036854775807 : Nat)) then
        bif
            decide
              ((a0 ++ (ByteArray.mk #[(32 : UInt8)]) ++ y0.fst.fst).size + (ByteArray.mk #[(32 : UInt8)]).size ≤
                (9223372036854775807 : Nat)) then
          (call (32 : Nat) s_impl_yesNo (a1.snd.snd.snd.fst, ())).bind fun (y1 : (ByteArray × PUnit) × PUnit) =>
            bif
                decide
                  ((a0 ++ (ByteArray.mk #[(32 : UInt8)]) ++ y0.fst.fst ++ (ByteArray.mk #[(32 : UInt8)])).size +
                      ByteArray.size y1.fst.fst ≤
                    (9223372036854775807 : Nat)) then
              bif
                  decide
                    ((a0 ++ (ByteArray.mk #[(32 : UInt8)]) ++ y0.fst.fst ++ (ByteArray.mk #[(32 : UInt8)]) ++ y1.fst.fst).size +
                        (ByteArray.mk #[(10 : UInt8)]).size ≤
                      (9223372036854775807 : Nat)) then
                some
                  ((a0 ++ (ByteArray.mk #[(32 : UInt8)]) ++ y0.fst.fst ++ (ByteArray.mk #[(32 : UInt8)]) ++ y1.fst.fst ++
                        (ByteArray.mk #[(10 : UInt8)]),
                      ()),
                    ())
              else none
            else none
        else none
      else none
  else none
def F (call : Cl) (k : Nat) (a0 : ByteArray) (a1 : (Int × (Int × (Int × (Bool × Unit))))) : Option R := Fm call k  a0 a1
theorem F_eq (call : Cl) (k : Nat) (a0 : ByteArray) (a1 : (Int × (Int × (Int × (Bool × Unit))))) : bodyK E call n_impl_lineText k s_impl_lineText (a0, a1, ()) = F call k a0 a1 := by
  kernel_rfl
end impl_lineText
/-! #### spec_l18Line -/
namespace spec_l18Line
abbrev R := ((ByteArray × Unit) × Unit)
def Fm (call : Cl) (k : Nat)  (a0 : (Int × (Int × (Int × (Bool × Unit))))) : Option R :=
    (call (16 : Nat) s_spec_l1Ints ([a0.fst, a0.snd.fst, a0.snd.snd.fst], ())).bind
    fun (y0 : (ByteArray × PUnit) × PUnit) =>
    bif decide ((ByteArray.mk #[(32 : UInt8)]).size + ByteArray.size y0.fst.fst ≤ (9223372036854775807 : Nat)) then
      bif a0.snd.snd.snd.fst then
        bif
            decide
              (((ByteArray.mk #[(32 : UInt8)]) ++ y0.fst.fst).size +
                  (ByteArray.mk #[(32 : UInt8), (121 : UInt8), (101 : UInt8), (115 : UInt8), (10 : UInt8)]).size ≤
                (9223372036854775807 : Nat)) then
          some
            (((ByteArray.mk #[(32 : UInt8)]) ++ y0.fst.fst ++
                  (ByteArray.mk #[(32 : UInt8), (121 : UInt8), (101 : UInt8), (115 : UInt8), (10 : UInt8)]),
                ()),
              ())
        else none
      else
        bif
            decide
              (((ByteArray.mk #[(32 : UInt8)]) ++ y0.fst.fst).size +
                  (ByteArray.mk #[(32 : UInt8), (110 : UInt8), (111 : UInt8), (10 : UInt8)]).size ≤
                (9223372036854775807 : Nat)) then
          some
            (((ByteArray.mk #[(32 : UInt8)]) ++ y0.fst.fst ++
                  (ByteArray.mk #[(32 : UInt8), (110 : UInt8), (111 : UInt8), (10 : UInt8)]),
                ()),
              ())
        else none
    else none
def F (call : Cl) (k : Nat) (a0 : (Int × (Int × (Int × (Bool × Unit))))) : Option R := Fm call k  a0
theorem F_eq (call : Cl) (k : Nat) (a0 : (Int × (Int × (Int × (Bool × Unit))))) : bodyK E call n_spec_l18Line k s_spec_l18Line (a0, ()) = F call k a0 := by
  kernel_rfl
end spec_l18Line
/-! #### spec_ShowOutcome -/
namespace spec_ShowOutcome
abbrev R := ((ByteArray × Unit) × Unit)
def Fm (call : Cl) (k : Nat)  (a0 : ((List Int) × (Int × (Int × Unit)))) : Option R :=
    bif decide ((↑(List.length a0.fst) : Int) > (0 : Int)) then
    (call (16 : Nat) s_spec_l1Ints (a0.fst, ())).bind fun (y0 : (ByteArray × PUnit) × PUnit) =>
      bif a0.snd.fst == (0 : Int) then
        bif
            decide
              (ByteArray.size y0.fst.fst +
                  (ByteArray.mk #[(32 : UInt8), (100 : UInt8), (111 : UInt8), (110 : UInt8), (101 : UInt8)]).size ≤
                (9223372036854775807 : Nat)) then
          some
            ((y0.fst.fst ++ (ByteArray.mk #[(32 : UInt8), (100 : UInt8), (111 : UInt8), (110 : UInt8), (101 : UInt8)]), ()),
              ())
        else none
      else
        bif a0.snd.fst == (1 : Int) then
          bif
              decide
                (ByteArray.size y0.fst.fst +
                    (ByteArray.mk #[(32 : UInt8), (116 : UInt8), (104 : UInt8), (114 : UInt8), (111 : UInt8), (119 : UInt8), (32 : UInt8)]).size ≤
                  (9223372036854775807 : Nat)) then
            (call (17 : Nat) s_spec_l1Int (a0.snd.snd.fst, ())).bind fun (y1 : (ByteArray × PUnit) × PUnit) =>
              bif
                  decide
                    ((y0.fst.fst ++
                            (ByteArray.mk #[(32 : UInt8), (116 : UInt8), (104 : UInt8), (114 : UInt8), (111 : UInt8), (119 : UInt8), (32 : UInt8)])).size +
                        ByteArray.size y1.fst.fst ≤
                      (9223372036854775807 : Nat)) then
                some
                  ((y0.fst.fst ++
                          (ByteArray.mk #[(32 : UInt8), (116 : UInt8), (104 : UInt8), (114 : UInt8), (111 : UInt8), (119 : UInt8), (32 : UInt8)]) ++
                        y1.fst.fst,
                      ()),
                    ())
              else none
          else none
        else
          bif a0.snd.fst == (2 : Int) then
            bif
                decide
                  (ByteArray.size y0.fst.fst +
                      (ByteArray.mk #[(32 : UInt8), (116 : UInt8), (114 : UInt8), (97 : UInt8), (112 : UInt8), (32 : UInt8)]).size ≤
                    (9223372036854775807 : Nat)) then
              (call (17 : Nat) s_spec_l1Int (a0.snd.snd.fst, ())).bind fun (y2 : (ByteArray × PUnit) × PUnit) =>
                bif
                    decide
                      ((y0.fst.fst ++
                              (ByteArray.mk #[(32 : UInt8), (116 : UInt8), (114 : UInt8), (97 : UInt8), (112 : UInt8), (32 : UInt8)])).size +
                          ByteArray.size y2.fst.fst ≤
                        (9223372036854775807 : Nat)) then
                  some
                    ((y0.fst.fst ++
                            (ByteArray.mk #[(32 : UInt8), (116 : UInt8), (114 : UInt8), (97 : UInt8), (112 : UInt8), (32 : UInt8)]) ++
                          y2.fst.fst,
                        ()),
                      ())
                else none
            else none
          else some (((ByteArray.mk #[]), ()), ())
  else
    bif a0.snd.fst == (0 : Int) then
      some
        (((ByteArray.mk #[(45 : UInt8)]) ++
              (ByteArray.mk #[(32 : UInt8), (100 : UInt8), (111 : UInt8), (110 : UInt8), (101 : UInt8)]),
            ()),
          ())
    else
      bif a0.snd.fst == (1 : Int) then
        (call (17 : Nat) s_spec_l1Int (a0.snd.snd.fst, ())).bind fun (y3 : (ByteArray × PUnit) × PUnit) =>
          bif
              decide
                (((ByteArray.mk #[(45 : UInt8)]) ++
                        (ByteArray.mk #[(32 : UInt8), (116 : UInt8), (104 : UInt8), (114 : UInt8), (111 : UInt8), (119 : UInt8), (32 : UInt8)])).size +
                    ByteArray.size y3.fst.fst ≤
                  (9223372036854775807 : Nat)) then
            some
              (((ByteArray.mk #[(45 : UInt8)]) ++
                      (ByteArray.mk #[(32 : UInt8), (116 : UInt8), (104 : UInt8), (114 : UInt8), (111 : UInt8), (119 : UInt8), (32 : UInt8)]) ++
                    y3.fst.fst,
                  ()),
                ())
          else none
      else
        bif a0.snd.fst == (2 : Int) then
          (call (17 : Nat) s_spec_l1Int (a0.snd.snd.fst, ())).bind fun (y4 : (ByteArray × PUnit) × PUnit) =>
            bif
                decide
                  (((ByteArray.mk #[(45 : UInt8)]) ++
                          (ByteArray.mk #[(32 : UInt8), (116 : UInt8), (114 : UInt8), (97 : UInt8), (112 : UInt8), (32 : UInt8)])).size +
                      ByteArray.size y4.fst.fst ≤
                    (9223372036854775807 : Nat)) then
              some
                (((ByteArray.mk #[(45 : UInt8)]) ++
                        (ByteArray.mk #[(32 : UInt8), (116 : UInt8), (114 : UInt8), (97 : UInt8), (112 : UInt8), (32 : UInt8)]) ++
                      y4.fst.fst,
                    ()),
                  ())
            else none
        else some (((ByteArray.mk #[]), ()), ())
def F (call : Cl) (k : Nat) (a0 : ((List Int) × (Int × (Int × Unit)))) : Option R := Fm call k  a0
theorem F_eq (call : Cl) (k : Nat) (a0 : ((List Int) × (Int × (Int × Unit)))) : bodyK E call n_spec_ShowOutcome k s_spec_ShowOutcome (a0, ()) = F call k a0 := by
  kernel_rfl
end spec_ShowOutcome
/-! #### impl_ShowOutcome -/
namespace impl_ShowOutcome
abbrev R := ((ByteArray × Unit) × Unit)
def Fm (call : Cl) (k : Nat)  (a0 : ((List Int) × (Int × (Int × Unit)))) : Option R :=
    (call (19 : Nat) s_impl_spaced (a0.fst, ())).bind fun (y0 : (ByteArray × PUnit) × PUnit) =>
    bif (↑(List.length a0.fst) : Int) == (0 : Int) then
      bif a0.snd.fst == (0 : Int) then
        some
          (((ByteArray.mk #[(45 : UInt8)]) ++
                (ByteArray.mk #[(32 : UInt8), (100 : UInt8), (111 : UInt8), (110 : UInt8), (101 : UInt8)]),
              ()),
            ())
      else
        bif a0.snd.fst == (1 : Int) then
          (call (20 : Nat) s_impl_digits (a0.snd.snd.fst, ())).bind fun (y1 : (ByteArray × PUnit) × PUnit) =>
            bif
                decide
                  (((ByteArray.mk #[(45 : UInt8)]) ++
                          (ByteArray.mk #[(32 : UInt8), (116 : UInt8), (104 : UInt8), (114 : UInt8), (111 : UInt8), (119 : UInt8), (32 : UInt8)])).size +
                      ByteArray.size y1.fst.fst ≤
                    (9223372036854775807 : Nat)) then
              some
                (((ByteArray.mk #[(45 : UInt8)]) ++
                        (ByteArray.mk #[(32 : UInt8), (116 : UInt8), (104 : UInt8), (114 : UInt8), (111 : UInt8), (119 : UInt8), (32 : UInt8)]) ++
                      y1.fst.fst,
                    ()),
                  ())
            else none
        else
          bif a0.snd.fst == (2 : Int) then
            (call (20 : Nat) s_impl_digits (a0.snd.snd.fst, ())).bind fun (y2 : (ByteArray × PUnit) × PUnit) =>
              bif
                  decide
                    (((ByteArray.mk #[(45 : UInt8)]) ++
                            (ByteArray.mk #[(32 : UInt8), (116 : UInt8), (114 : UInt8), (97 : UInt8), (112 : UInt8), (32 : UInt8)])).size +
                        ByteArray.size y2.fst.fst ≤
                      (9223372036854775807 : Nat)) then
                some
                  (((ByteArray.mk #[(45 : UInt8)]) ++
                          (ByteArray.mk #[(32 : UInt8), (116 : UInt8), (114 : UInt8), (97 : UInt8), (112 : UInt8), (32 : UInt8)]) ++
                        y2.fst.fst,
                      ()),
                    ())
              else none
          else some (((ByteArray.mk #[]), ()), ())
    else
      bif a0.snd.fst == (0 : Int) then
        bif
            decide
              (ByteArray.size y0.fst.fst +
                  (ByteArray.mk #[(32 : UInt8), (100 : UInt8), (111 : UInt8), (110 : UInt8), (101 : UInt8)]).size ≤
                (9223372036854775807 : Nat)) then
          some
            ((y0.fst.fst ++ (ByteArray.mk #[(32 : UInt8), (100 : UInt8), (111 : UInt8), (110 : UInt8), (101 : UInt8)]), ()),
              ())
        else none
      else
        bif a0.snd.fst == (1 : Int) then
          bif
              decide
                (ByteArray.size y0.fst.fst +
                    (ByteArray.mk #[(32 : UInt8), (116 : UInt8), (104 : UInt8), (114 : UInt8), (111 : UInt8), (119 : UInt8), (32 : UInt8)]).size ≤
                  (9223372036854775807 : Nat)) then
            (call (20 : Nat) s_impl_digits (a0.snd.snd.fst, ())).bind fun (y3 : (ByteArray × PUnit) × PUnit) =>
              bif
                  decide
                    ((y0.fst.fst ++
                            (ByteArray.mk #[(32 : UInt8), (116 : UInt8), (104 : UInt8), (114 : UInt8), (111 : UInt8), (119 : UInt8), (32 : UInt8)])).size +
                        ByteArray.size y3.fst.fst ≤
                      (9223372036854775807 : Nat)) then
                some
                  ((y0.fst.fst ++
                          (ByteArray.mk #[(32 : UInt8), (116 : UInt8), (104 : UInt8), (114 : UInt8), (111 : UInt8), (119 : UInt8), (32 : UInt8)]) ++
                        y3.fst.fst,
                      ()),
                    ())
              else none
          else none
        else
          bif a0.snd.fst == (2 : Int) then
            bif
                decide
                  (ByteArray.size y0.fst.fst +
                      (ByteArray.mk #[(32 : UInt8), (116 : UInt8), (114 : UInt8), (97 : UInt8), (112 : UInt8), (32 : UInt8)]).size ≤
                    (9223372036854775807 : Nat)) then
              (call (20 : Nat) s_impl_digits (a0.snd.snd.fst, ())).bind fun (y4 : (ByteArray × PUnit) × PUnit) =>
                bif
                    decide
                      ((y0.fst.fst ++
                              (ByteArray.mk #[(32 : UInt8), (116 : UInt8), (114 : UInt8), (97 : UInt8), (112 : UInt8), (32 : UInt8)])).size +
                          ByteArray.size y4.fst.fst ≤
                        (9223372036854775807 : Nat)) then
                  some
                    ((y0.fst.fst ++
                            (ByteArray.mk #[(32 : UInt8), (116 : UInt8), (114 : UInt8), (97 : UInt8), (112 : UInt8), (32 : UInt8)]) ++
                          y4.fst.fst,
                        ()),
                      ())
                else none
            else none
          else some (((ByteArray.mk #[]), ()), ())
def F (call : Cl) (k : Nat) (a0 : ((List Int) × (Int × (Int × Unit)))) : Option R := Fm call k  a0
theorem F_eq (call : Cl) (k : Nat) (a0 : ((List Int) × (Int × (Int × Unit)))) : bodyK E call n_impl_ShowOutcome k s_impl_ShowOutcome (a0, ()) = F call k a0 := by
  kernel_rfl
end impl_ShowOutcome
end Go.Proofs.YtbalepejjjmioaaDoor.Pf
