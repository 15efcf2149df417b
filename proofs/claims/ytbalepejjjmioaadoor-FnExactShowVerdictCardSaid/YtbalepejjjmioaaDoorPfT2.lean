/- Printed texts: what the reading of these functions is. No condition. -/
import Derived.Test.YtbalepejjjmioaaDoorPvEnv
import Derived.KernelRfl
set_option linter.unusedVariables false
namespace Go.Proofs.YtbalepejjjmioaaDoor.Pf
open Go Go.Pv
abbrev Y2_0 := (Int × ((List (Int × (Int × (Int × (Bool × Unit))))) × ((Int × (Int × (Int × (Bool × Unit)))) × (Bool × Unit))))
abbrev Y2_1 := (List (Int × (Int × (Int × (Bool × Unit)))))
abbrev Y2_2 := (Int × (Int × (Int × (Bool × Unit))))
abbrev Y2_3 := ((ByteArray) × (Int))
/-! #### spec_ShowVerdict -/
namespace spec_ShowVerdict
abbrev R := ((ByteArray × Unit) × Unit)
def S0 (a0 : Y2_0) (v0_0 : ByteArray) (v0_1 : Int) : St := ⟨mkS 44 [(1, .p [1] [] 0), (3, .v .str v0_0), (4, .v (.int .i64) v0_1)], [([1], .box (.v (.pair (.int .i64) (.pair (.slc (.pair (.int .i64) (.pair (.int .i64) (.pair (.int .i64) (.pair .bool .unit))))) (.pair (.pair (.int .i64) (.pair (.int .i64) (.pair (.int .i64) (.pair .bool .unit)))) (.pair .bool .unit)))) ((a0.fst), ((a0.snd.fst), (((a0.snd.snd.fst.fst), ((a0.snd.snd.fst.snd.fst), ((a0.snd.snd.fst.snd.snd.fst), ((a0.snd.snd.fst.snd.snd.snd.fst), ())))), ((a0.snd.snd.snd.fst), ()))))))]⟩
def step0 (call : Cl) (k : Nat) (a0 : (Int × ((List (Int × (Int × (Int × (Bool × Unit))))) × ((Int × (Int × (Int × (Bool × Unit)))) × (Bool × Unit)))))   (r0 : (ByteArray) → (Int) → Option R) (v0_0 : ByteArray) (v0_1 : Int) : Option R :=
    bif decide (v0_1 < (↑a0.snd.fst.length : Int)) then
    bif
        decide
          (v0_0.size +
              (ByteArray.mk #[(115 : UInt8), (101 : UInt8), (99 : UInt8), (114 : UInt8), (101 : UInt8), (116 : UInt8), (32 : UInt8)]).size ≤
            (9223372036854775807 : Nat)) then
      (call (17 : Nat) s_spec_l1Int (v0_1, ())).bind fun (y1 : (ByteArray × PUnit) × PUnit) =>
        bif
            decide
              ((v0_0 ++
                      (ByteArray.mk #[(115 : UInt8), (101 : UInt8), (99 : UInt8), (114 : UInt8), (101 : UInt8), (116 : UInt8), (32 : UInt8)])).size +
                  ByteArray.size y1.fst.fst ≤
                (9223372036854775807 : Nat)) then
          bif decide ((0 : Int) ≤ v0_1) then
            (lget a0.snd.fst v0_1.toNat).bind fun (y2 : Int × Int × Int × Bool × PUnit) =>
              (call (23 : Nat) s_spec_l18Line (y2, ())).bind fun (y3 : (ByteArray × PUnit) × PUnit) =>
                bif
                    decide
                      ((v0_0 ++
                                (ByteArray.mk #[(115 : UInt8), (101 : UInt8), (99 : UInt8), (114 : UInt8), (101 : UInt8), (116 : UInt8), (32 : UInt8)]) ++
                              y1.fst.fst).size +
                          ByteArray.size y3.fst.fst ≤
                        (9223372036854775807 : Nat)) then
                  r0
                    (v0_0 ++
                          (ByteArray.mk #[(115 : UInt8), (101 : UInt8), (99 : UInt8), (114 : UInt8), (101 : UInt8), (116 : UInt8), (32 : UInt8)]) ++
                        y1.fst.fst ++
                      y3.fst.fst)
                    (IntKind.i64.wrap (v0_1 + (1 : Int)))
                else none
          else none
        else none
    else none
  else
    bif
        decide
          (v0_0.size + (ByteArray.mk #[(106 : UInt8), (111 : UInt8), (105 : UInt8), (110 : UInt8), (116 : UInt8)]).size ≤
            (9223372036854775807 : Nat)) then
      (call (23 : Nat) s_spec_l18Line
            ((a0.snd.snd.fst.fst, a0.snd.snd.fst.snd.fst, a0.snd.snd.fst.snd.snd.fst, a0.snd.snd.fst.snd.snd.snd.fst, ()),
              ())).bind
        fun (y4 : (ByteArray × PUnit) × PUnit) =>
        bif
            decide
              ((v0_0 ++ (ByteArray.mk #[(106 : UInt8), (111 : UInt8), (105 : UInt8), (110 : UInt8), (116 : UInt8)])).size +
                  ByteArray.size y4.fst.fst ≤
                (9223372036854775807 : Nat)) then
          bif a0.snd.snd.snd.fst then
            bif
                decide
                  ((v0_0 ++ (ByteArray.mk #[(106 : UInt8), (111 : UInt8), (105 : UInt8), (110 : UInt8), (116 : UInt8)]) ++
                          y4.fst.fst).size +
                      (ByteArray.mk #[(97 : UInt8), (99 : UInt8), (99 : UInt8), (101 : UInt8), (112 : UInt8), (116 : UInt8), (10 : UInt8)]).size ≤
                    (9223372036854775807 : Nat)) then
              some
                ((v0_0 ++ (ByteArray.mk #[(106 : UInt8), (111 : UInt8), (105 : UInt8), (110 : UInt8), (116 : UInt8)]) ++
                        y4.fst.fst ++
                      (ByteArray.mk #[(97 : UInt8), (99 : UInt8), (99 : UInt8), (101 : UInt8), (112 : UInt8), (116 : UInt8), (10 : UInt8)]),
                    ()),
                  ())
            else none
          else
            bif
                decide
                  ((v0_0 ++ (ByteArray.mk #[(106 : UInt8), (111 : UInt8), (105 : UInt8), (110 : UInt8), (116 : UInt8)]) ++
                          y4.fst.fst).size +
                      (ByteArray.mk #[(114 : UInt8), (101 : UInt8), (106 : UInt8), (101 : UInt8), (99 : UInt8), (116 : UInt8), (10 : UInt8)]).size ≤
                    (9223372036854775807 : Nat)) then
              some
                ((v0_0 ++ (ByteArray.mk #[(106 : UInt8), (111 : UInt8), (105 : UInt8), (110 : UInt8), (116 : UInt8)]) ++
                        y4.fst.fst ++
                      (ByteArray.mk #[(114 : UInt8), (101 : UInt8), (106 : UInt8), (101 : UInt8), (99 : UInt8), (116 : UInt8), (10 : UInt8)]),
                    ()),
                  ())
            else none
        else none
    else none
def L0 (call : Cl) (k : Nat) (a0 : (Int × ((List (Int × (Int × (Int × (Bool × Unit))))) × ((Int × (Int × (Int × (Bool × Unit)))) × (Bool × Unit)))))  : Nat → (ByteArray) → (Int) → Option R
    | 0, _, _ => none
    | n + 1, v0_0, v0_1 => step0 call k a0   (L0 call k a0  n) v0_0 v0_1
def Fm (call : Cl) (k : Nat) (l0 : ((Int × ((List (Int × (Int × (Int × (Bool × Unit))))) × ((Int × (Int × (Int × (Bool × Unit)))) × (Bool × Unit))))) → (ByteArray) → (Int) → Option R) (a0 : (Int × ((List (Int × (Int × (Int × (Bool × Unit))))) × ((Int × (Int × (Int × (Bool × Unit)))) × (Bool × Unit))))) : Option R :=
    bif a0.fst != (0 : Int) then
    (call (17 : Nat) s_spec_l1Int (a0.fst, ())).bind fun (y0 : (ByteArray × PUnit) × PUnit) =>
      bif
          decide
            ((ByteArray.mk #[(98 : UInt8), (97 : UInt8), (100 : UInt8), (32 : UInt8)]).size + ByteArray.size y0.fst.fst ≤
              (9223372036854775807 : Nat)) then
        bif
            decide
              (((ByteArray.mk #[(98 : UInt8), (97 : UInt8), (100 : UInt8), (32 : UInt8)]) ++ y0.fst.fst).size +
                  (ByteArray.mk #[(10 : UInt8)]).size ≤
                (9223372036854775807 : Nat)) then
          some
            (((ByteArray.mk #[(98 : UInt8), (97 : UInt8), (100 : UInt8), (32 : UInt8)]) ++ y0.fst.fst ++
                  (ByteArray.mk #[(10 : UInt8)]),
                ()),
              ())
        else none
      else none
  else l0 a0 (ByteArray.mk #[]) (0 : Int)
def F (call : Cl) (k : Nat) (a0 : (Int × ((List (Int × (Int × (Int × (Bool × Unit))))) × ((Int × (Int × (Int × (Bool × Unit)))) × (Bool × Unit))))) : Option R := Fm call k (fun a0_ v0_0_ v0_1_ => L0 call k a0_ k v0_0_ v0_1_) a0
theorem L0_eq (call : Cl) (k : Nat) (J : Nat → St → Option R) (a0 : Y2_0) : ∀ (n : Nat) (x : Y2_3), siteI E call n_spec_ShowVerdict k s_spec_ShowVerdict (a0, ()) J 0 n (S0 a0 x.1 x.2) = L0 call k a0  n x.1 x.2 := by
  refine loop_eq (E := E) (call := call) (f := n_spec_ShowVerdict) (k := k) (s := s_spec_ShowVerdict) (l := (a0, ())) (J := J) (i := 0) (X := Y2_3) (fun x => S0 a0 x.1 x.2) (fun n x => L0 call k a0  n x.1 x.2) (fun r x => step0 call k a0   (fun v0_0 v0_1 => r (v0_0, v0_1)) x.1 x.2) ?_ ?_ ?_
  · intro x; rfl
  · intro n x; rfl
  intro J0 x
  kernel_rfl
theorem F_eq (call : Cl) (k : Nat) (a0 : Y2_0) : bodyK E call n_spec_ShowVerdict k s_spec_ShowVerdict (a0, ()) = F call k a0 := by
  exact Eq.trans (b := Fm call k (fun a0 v0_0_ v0_1_ => siteI E call n_spec_ShowVerdict k s_spec_ShowVerdict (a0, ()) (fun _ _ => none) 0 k (S0 a0 v0_0_ v0_1_)) a0) (by kernel_rfl) (congrArg (fun l => Fm call k l a0) (funext fun a0 => funext fun v0_0_ => funext fun v0_1_ => L0_eq call k (fun _ _ => none) a0 k (v0_0_, v0_1_)))
end spec_ShowVerdict
/-! #### impl_ShowVerdict -/
namespace impl_ShowVerdict
abbrev R := ((ByteArray × Unit) × Unit)
def S0 (a0 : Y2_0) (v0_0 : ByteArray) (v0_3 : Int) : St := ⟨mkS 41 [(1, .p [1] [] 0), (3, .v .str v0_0), (15, .v (.slc (.pair (.int .i64) (.pair (.int .i64) (.pair (.int .i64) (.pair .bool .unit))))) (a0.snd.fst)), (16, .v (.int .i64) ((↑(List.length a0.snd.fst) : Int))), (17, .v (.int .i64) v0_3)], [([1], .box (.v (.pair (.int .i64) (.pair (.slc (.pair (.int .i64) (.pair (.int .i64) (.pair (.int .i64) (.pair .bool .unit))))) (.pair (.pair (.int .i64) (.pair (.int .i64) (.pair (.int .i64) (.pair .bool .unit)))) (.pair .bool .unit)))) ((a0.fst), ((a0.snd.fst), (((a0.snd.snd.fst.fst), ((a0.snd.snd.fst.snd.fst), ((a0.snd.snd.fst.snd.snd.fst), ((a0.snd.snd.fst.snd.snd.snd.fst), ())))), ((a0.snd.snd.snd.fst), ()))))))]⟩
def step0 (call : Cl) (k : Nat) (a0 : (Int × ((List (Int × (Int × (Int × (Bool × Unit))))) × ((Int × (Int × (Int × (Bool × Unit)))) × (Bool × Unit)))))   (r0 : (ByteArray) → (Int) → Option R) (v0_0 : ByteArray) (v0_3 : Int) : Option R :=
    bif decide (v0_3 < (↑(List.length a0.snd.fst) : Int)) then
    bif decide ((0 : Int) ≤ v0_3) then
      (lget a0.snd.fst v0_3.toNat).bind fun (y1 : Int × Int × Int × Bool × PUnit) =>
        (call (20 : Nat) s_impl_digits (v0_3, ())).bind fun (y2 : (ByteArray × PUnit) × PUnit) =>
          bif
              decide
                ((ByteArray.mk #[(115 : UInt8), (101 : UInt8), (99 : UInt8), (114 : UInt8), (101 : UInt8), (116 : UInt8), (32 : UInt8)]).size +
                    ByteArray.size y2.fst.fst ≤
                  (9223372036854775807 : Nat)) then
            (call (26 : Nat) s_impl_lineText
                  ((ByteArray.mk #[(115 : UInt8), (101 : UInt8), (99 : UInt8), (114 : UInt8), (101 : UInt8), (116 : UInt8), (32 : UInt8)]) ++
                      y2.fst.fst,
                    y1, ())).bind
              fun (y3 : (ByteArray × PUnit) × PUnit) =>
              bif decide (v0_0.size + ByteArray.size y3.fst.fst ≤ (9223372036854775807 : Nat)) then
                r0 (v0_0 ++ y3.fst.fst) (IntKind.i64.wrap (v0_3 + (1 : Int)))
              else none
          else none
    else none
  else
    (call (26 : Nat) s_impl_lineText
          ((ByteArray.mk #[(106 : UInt8), (111 : UInt8), (105 : UInt8), (110 : UInt8), (116 : UInt8)]),
            (a0.snd.snd.fst.fst, a0.snd.snd.fst.snd.fst, a0.snd.snd.fst.snd.snd.fst, a0.snd.snd.fst.snd.snd.snd.fst, ()),
            ())).bind
      fun (y4 : (ByteArray × PUnit) × PUnit) =>
      bif decide (v0_0.size + ByteArray.size y4.fst.fst ≤ (9223372036854775807 : Nat)) then
        bif a0.snd.snd.snd.fst then
          bif
              decide
                ((v0_0 ++ y4.fst.fst).size +
                    (ByteArray.mk #[(97 : UInt8), (99 : UInt8), (99 : UInt8), (101 : UInt8), (112 : UInt8), (116 : UInt8), (10 : UInt8)]).size ≤
                  (9223372036854775807 : Nat)) then
            some
              ((v0_0 ++ y4.fst.fst ++
                    (ByteArray.mk #[(97 : UInt8), (99 : UInt8), (99 : UInt8), (101 : UInt8), (112 : UInt8), (116 : UInt8), (10 : UInt8)]),
                  ()),
                ())
          else none
        else
          bif
              decide
                ((v0_0 ++ y4.fst.fst).size +
                    (ByteArray.mk #[(114 : UInt8), (101 : UInt8), (106 : UInt8), (101 : UInt8), (99 : UInt8), (116 : UInt8), (10 : UInt8)]).size ≤
                  (9223372036854775807 : Nat)) then
            some
              ((v0_0 ++ y4.fst.fst ++
                    (ByteArray.mk #[(114 : UInt8), (101 : UInt8), (106 : UInt8), (101 : UInt8), (99 : UInt8), (116 : UInt8), (10 : UInt8)]),
                  ()),
                ())
          else none
      else none
def L0 (call : Cl) (k : Nat) (a0 : (Int × ((List (Int × (Int × (Int × (Bool × Unit))))) × ((Int × (Int × (Int × (Bool × Unit)))) × (Bool × Unit)))))  : Nat → (ByteArray) → (Int) → Option R
    | 0, _, _ => none
    | n + 1, v0_0, v0_3 => step0 call k a0   (L0 call k a0  n) v0_0 v0_3
def Fm (call : Cl) (k : Nat) (l0 : ((Int × ((List (Int × (Int × (Int × (Bool × Unit))))) × ((Int × (Int × (Int × (Bool × Unit)))) × (Bool × Unit))))) → (ByteArray) → (Int) → Option R) (a0 : (Int × ((List (Int × (Int × (Int × (Bool × Unit))))) × ((Int × (Int × (Int × (Bool × Unit)))) × (Bool × Unit))))) : Option R :=
    bif a0.fst != (0 : Int) then
    (call (20 : Nat) s_impl_digits (a0.fst, ())).bind fun (y0 : (ByteArray × PUnit) × PUnit) =>
      bif
          decide
            ((ByteArray.mk #[(98 : UInt8), (97 : UInt8), (100 : UInt8), (32 : UInt8)]).size + ByteArray.size y0.fst.fst ≤
              (9223372036854775807 : Nat)) then
        bif
            decide
              (((ByteArray.mk #[(98 : UInt8), (97 : UInt8), (100 : UInt8), (32 : UInt8)]) ++ y0.fst.fst).size +
                  (ByteArray.mk #[(10 : UInt8)]).size ≤
                (9223372036854775807 : Nat)) then
          some
            (((ByteArray.mk #[(98 : UInt8), (97 : UInt8), (100 : UInt8), (32 : UInt8)]) ++ y0.fst.fst ++
                  (ByteArray.mk #[(10 : UInt8)]),
                ()),
              ())
        else none
      else none
  else l0 a0 (ByteArray.mk #[]) (0 : Int)
def F (call : Cl) (k : Nat) (a0 : (Int × ((List (Int × (Int × (Int × (Bool × Unit))))) × ((Int × (Int × (Int × (Bool × Unit)))) × (Bool × Unit))))) : Option R := Fm call k (fun a0_ v0_0_ v0_3_ => L0 call k a0_ k v0_0_ v0_3_) a0
theorem L0_eq (call : Cl) (k : Nat) (J : Nat → St → Option R) (a0 : Y2_0) : ∀ (n : Nat) (x : Y2_3), siteI E call n_impl_ShowVerdict k s_impl_ShowVerdict (a0, ()) J 0 n (S0 a0 x.1 x.2) = L0 call k a0  n x.1 x.2 := by
  refine loop_eq (E := E) (call := call) (f := n_impl_ShowVerdict) (k := k) (s := s_impl_ShowVerdict) (l := (a0, ())) (J := J) (i := 0) (X := Y2_3) (fun x => S0 a0 x.1 x.2) (fun n x => L0 call k a0  n x.1 x.2) (fun r x => step0 call k a0   (fun v0_0 v0_3 => r (v0_0, v0_3)) x.1 x.2) ?_ ?_ ?_
  · intro x; rfl
  · intro n x; rfl
  intro J0 x
  kernel_rfl
theorem F_eq (call : Cl) (k : Nat) (a0 : Y2_0) : bodyK E call n_impl_ShowVerdict k s_impl_ShowVerdict (a0, ()) = F call k a0 := by
  exact Eq.trans (b := Fm call k (fun a0 v0_0_ v0_3_ => siteI E call n_impl_ShowVerdict k s_impl_ShowVerdict (a0, ()) (fun _ _ => none) 0 k (S0 a0 v0_0_ v0_3_)) a0) (by kernel_rfl) (congrArg (fun l => Fm call k l a0) (funext fun a0 => funext fun v0_0_ => funext fun v0_3_ => L0_eq call k (fun _ _ => none) a0 k (v0_0_, v0_3_)))
end impl_ShowVerdict
/-! #### laws_szLineS -/
namespace laws_szLineS
abbrev R := ((Int × Unit) × Unit)
def Fm (call : Cl) (k : Nat)  (a0 : (List (Int × (Int × (Int × (Bool × Unit)))))) (a1 : Int) : Option R :=
    bif decide (IntKind.i64.wrap (a1 - (↑a0.length : Int)) < (0 : Int)) then some (((-1 : Int), ()), ())
  else some ((IntKind.i64.wrap (a1 - (↑a0.length : Int)), ()), ())
def F (call : Cl) (k : Nat) (a0 : (List (Int × (Int × (Int × (Bool × Unit)))))) (a1 : Int) : Option R := Fm call k  a0 a1
theorem F_eq (call : Cl) (k : Nat) (a0 : Y2_1) (a1 : Int) : bodyK E call n_laws_szLineS k s_laws_szLineS (a0, a1, ()) = F call k a0 a1 := by
  kernel_rfl
end laws_szLineS
/-! #### laws_toLine -/
namespace laws_toLine
abbrev R := (((Int × (Int × (Int × (Bool × Unit)))) × Unit) × Unit)
def Fm (call : Cl) (k : Nat)  (a0 : (Int × (Int × (Int × (Bool × Unit))))) : Option R :=
    some (((a0.fst, a0.snd.fst, a0.snd.snd.fst, a0.snd.snd.snd.fst, ()), ()), ())
def F (call : Cl) (k : Nat) (a0 : (Int × (Int × (Int × (Bool × Unit))))) : Option R := Fm call k  a0
theorem F_eq (call : Cl) (k : Nat) (a0 : Y2_2) : bodyK E call n_laws_toLine k s_laws_toLine (a0, ()) = F call k a0 := by
  kernel_rfl
end laws_toLine
/-! #### laws_toLineS -/
namespace laws_toLineS
abbrev R := (((List (Int × (Int × (Int × (Bool × Unit))))) × Unit) × Unit)
def S0 (a0 : Y2_1) (v0_1 : Int) (v0_2 : Y2_1) : St := ⟨mkS 23 [(0, .v (.slc (.pair (.int .i64) (.pair (.int .i64) (.pair (.int .i64) (.pair .bool .unit))))) (a0)), (3, .ref [3]), (4, .v (.int .i64) v0_1)], [([3], .list 39 (.pair (.int .i64) (.pair (.int .i64) (.pair (.int .i64) (.pair .bool .unit)))) v0_2)]⟩
def step0 (call : Cl) (k : Nat) (a0 : (List (Int × (Int × (Int × (Bool × Unit))))))   (r0 : (Int) → ((List (Int × (Int × (Int × (Bool × Unit)))))) → Option R) (v0_1 : Int) (v0_2 : (List (Int × (Int × (Int × (Bool × Unit)))))) : Option R :=
    bif decide (v0_1 < (↑a0.length : Int)) then
    bif decide ((0 : Int) ≤ v0_1) then
      (lget a0 v0_1.toNat).bind fun (y0 : Int × Int × Int × Bool × PUnit) =>
        (call (25 : Nat) s_laws_toLine (y0, ())).bind fun (y1 : ((Int × Int × Int × Bool × PUnit) × PUnit) × PUnit) =>
          bif decide ((0 : Int) ≤ v0_1) && decide (v0_1.toNat < v0_2.length) then
            (lget v0_2 v0_1.toNat).bind fun (y2 : Int × Int × Int × Bool × PUnit) =>
              r0 (IntKind.i64.wrap (v0_1 + (1 : Int)))
                (v0_2.set v0_1.toNat
                  (y1.fst.fst.fst, y1.fst.fst.snd.fst, y1.fst.fst.snd.snd.fst, y1.fst.fst.snd.snd.snd.fst,
                    y1.fst.fst.snd.snd.snd.snd))
          else none
    else none
  else some ((v0_2, ()), ())
def L0 (call : Cl) (k : Nat) (a0 : (List (Int × (Int × (Int × (Bool × Unit))))))  : Nat → (Int) → ((List (Int × (Int × (Int × (Bool × Unit)))))) → Option R
    | 0, _, _ => none
    | n + 1, v0_1, v0_2 => step0 call k a0   (L0 call k a0  n) v0_1 v0_2
def Fm (call : Cl) (k : Nat) (l0 : ((List (Int × (Int × (Int × (Bool × Unit)))))) → (Int) → ((List (Int × (Int × (Int × (Bool × Unit)))))) → Option R) (a0 : (List (Int × (Int × (Int × (Bool × Unit)))))) : Option R :=
    bif
      decide ((↑a0.length : Int) = (↑a0.length : Int)) && decide ((0 : Int) ≤ (↑a0.length : Int)) &&
        decide ((↑a0.length : Int) * (↑ti39.bytes : Int) ≤ (281474976710656 : Int)) then
    l0 a0 (0 : Int) (List.replicate (↑a0.length : Int).toNat ((0 : Int), (0 : Int), (0 : Int), false, ()))
  else none
def F (call : Cl) (k : Nat) (a0 : (List (Int × (Int × (Int × (Bool × Unit)))))) : Option R := Fm call k (fun a0_ v0_1_ v0_2_ => L0 call k a0_ k v0_1_ v0_2_) a0
theorem L0_eq (call : Cl) (k : Nat) (J : Nat → St → Option R) (a0 : Y2_1) : ∀ (n : Nat) (x : ((Int) × (Y2_1))), siteI E call n_laws_toLineS k s_laws_toLineS (a0, ()) J 0 n (S0 a0 x.1 x.2) = L0 call k a0  n x.1 x.2 := by
  refine loop_eq (E := E) (call := call) (f := n_laws_toLineS) (k := k) (s := s_laws_toLineS) (l := (a0, ())) (J := J) (i := 0) (X := ((Int) × (Y2_1))) (fun x => S0 a0 x.1 x.2) (fun n x => L0 call k a0  n x.1 x.2) (fun r x => step0 call k a0   (fun v0_1 v0_2 => r (v0_1, v0_2)) x.1 x.2) ?_ ?_ ?_
  · intro x; rfl
  · intro n x; rfl
  intro J0 x
  kernel_rfl
theorem F_eq (call : Cl) (k : Nat) (a0 : Y2_1) : bodyK E call n_laws_toLineS k s_laws_toLineS (a0, ()) = F call k a0 := by
  exact Eq.trans (b := Fm call k (fun a0 v0_1_ v0_2_ => siteI E call n_laws_toLineS k s_laws_toLineS (a0, ()) (fun _ _ => none) 0 k (S0 a0 v0_1_ v0_2_)) a0) (by kernel_rfl) (congrArg (fun l => Fm call k l a0) (funext fun a0 => funext fun v0_1_ => funext fun v0_2_ => L0_eq call k (fun _ _ => none) a0 k (v0_1_, v0_2_)))
end laws_toLineS
/-! #### laws_eqLine -/
namespace laws_eqLine
abbrev R := ((Bool × Unit) × Unit)
def Fm (call : Cl) (k : Nat)  (a0 : (Int × (Int × (Int × (Bool × Unit))))) (a1 : (Int × (Int × (Int × (Bool × Unit))))) : Option R :=
    bif a0.fst != a1.fst then some ((false, ()), ())
  else
    bif a0.snd.fst != a1.snd.fst then some ((false, ()), ())
    else
      bif a0.snd.snd.fst != a1.snd.snd.fst then some ((false, ()), ())
      else bif !a0.snd.snd.snd.fst == a1.snd.snd.snd.fst then some ((false, ()), ()) else some ((true, ()), ())
def F (call : Cl) (k : Nat) (a0 : (Int × (Int × (Int × (Bool × Unit))))) (a1 : (Int × (Int × (Int × (Bool × Unit))))) : Option R := Fm call k  a0 a1
theorem F_eq (call : Cl) (k : Nat) (a0 : Y2_2) (a1 : Y2_2) : bodyK E call n_laws_eqLine k s_laws_eqLine (a0, a1, ()) = F call k a0 a1 := by
  kernel_rfl
end laws_eqLine
/-! #### laws_eqLineS -/
namespace laws_eqLineS
abbrev R := ((Bool × Unit) × Unit)
def S0 (a0 : Y2_1) (a1 : Y2_1) (v0_2 : Int) : St := ⟨mkS 27 [(0, .v (.slc (.pair (.int .i64) (.pair (.int .i64) (.pair (.int .i64) (.pair .bool .unit))))) (a0)), (1, .v (.slc (.pair (.int .i64) (.pair (.int .i64) (.pair (.int .i64) (.pair .bool .unit))))) (a1)), (5, .v (.int .i64) v0_2)], []⟩
def step0 (call : Cl) (k : Nat) (a0 : (List (Int × (Int × (Int × (Bool × Unit)))))) (a1 : (List (Int × (Int × (Int × (Bool × Unit))))))   (r0 : (Int) → Option R) (v0_2 : Int) : Option R :=
    bif decide (v0_2 < (↑a0.length : Int)) then
    bif decide ((0 : Int) ≤ v0_2) then
      (lget a0 v0_2.toNat).bind fun (y0 : Int × Int × Int × Bool × PUnit) =>
        bif decide ((0 : Int) ≤ v0_2) then
          (lget a1 v0_2.toNat).bind fun (y1 : Int × Int × Int × Bool × PUnit) =>
            (call (28 : Nat) s_laws_eqLine (y0, y1, ())).bind fun (y2 : (Bool × PUnit) × PUnit) =>
              bif !y2.fst.fst then some ((false, ()), ()) else r0 (IntKind.i64.wrap (v0_2 + (1 : Int)))
        else none
    else none
  else some ((true, ()), ())
def L0 (call : Cl) (k : Nat) (a0 : (List (Int × (Int × (Int × (Bool × Unit)))))) (a1 : (List (Int × (Int × (Int × (Bool × Unit))))))  : Nat → (Int) → Option R
    | 0, _ => none
    | n + 1, v0_2 => step0 call k a0 a1   (L0 call k a0 a1  n) v0_2
def Fm (call : Cl) (k : Nat) (l0 : ((List (Int × (Int × (Int × (Bool × Unit)))))) → ((List (Int × (Int × (Int × (Bool × Unit)))))) → (Int) → Option R) (a0 : (List (Int × (Int × (Int × (Bool × Unit)))))) (a1 : (List (Int × (Int × (Int × (Bool × Unit)))))) : Option R :=
    bif (↑a0.length : Int) != (↑a1.length : Int) then some ((false, ()), ()) else l0 a0 a1 (0 : Int)
def F (call : Cl) (k : Nat) (a0 : (List (Int × (Int × (Int × (Bool × Unit)))))) (a1 : (List (Int × (Int × (Int × (Bool × Unit)))))) : Option R := Fm call k (fun a0_ a1_ v0_2_ => L0 call k a0_ a1_ k v0_2_) a0 a1
theorem L0_eq (call : Cl) (k : Nat) (J : Nat → St → Option R) (a0 : Y2_1) (a1 : Y2_1) : ∀ (n : Nat) (x : (Int)), siteI E call n_laws_eqLineS k s_laws_eqLineS (a0, a1, ()) J 0 n (S0 a0 a1 x) = L0 call k a0 a1  n x := by
  refine loop_eq (E := E) (call := call) (f := n_laws_eqLineS) (k := k) (s := s_laws_eqLineS) (l := (a0, a1, ())) (J := J) (i := 0) (X := (Int)) (fun x => S0 a0 a1 x) (fun n x => L0 call k a0 a1  n x) (fun r x => step0 call k a0 a1   (fun v0_2 => r v0_2) x) ?_ ?_ ?_
  · intro x; rfl
  · intro n x; rfl
  intro J0 x
  kernel_rfl
theorem F_eq (call : Cl) (k : Nat) (a0 : Y2_1) (a1 : Y2_1) : bodyK E call n_laws_eqLineS k s_laws_eqLineS (a0, a1, ()) = F call k a0 a1 := by
  exact Eq.trans (b := Fm call k (fun a0 a1 v0_2_ => siteI E call n_laws_eqLineS k s_laws_eqLineS (a0, a1, ()) (fun _ _ => none) 0 k (S0 a0 a1 v0_2_)) a0 a1) (by kernel_rfl) (congrArg (fun l => Fm call k l a0 a1) (funext fun a0 => funext fun a1 => funext fun v0_2_ => L0_eq call k (fun _ _ => none) a0 a1 k v0_2_))
end laws_eqLineS
/-! #### laws_szVerdict -/
namespace laws_szVerdict
abbrev R := ((Int × Unit) × Unit)
def Fm (call : Cl) (k : Nat)  (a0 : (Int × ((List (Int × (Int × (Int × (Bool × Unit))))) × ((Int × (Int × (Int × (Bool × Unit)))) × (Bool × Unit))))) (a1 : Int) : Option R :=
    (call (22 : Nat) s_laws_szLineS (a0.snd.fst, a1, ())).bind fun (y0 : (Int × PUnit) × PUnit) =>
    bif decide (y0.fst.fst < (0 : Int)) then some (((-1 : Int), ()), ()) else some ((y0.fst.fst, ()), ())
def F (call : Cl) (k : Nat) (a0 : (Int × ((List (Int × (Int × (Int × (Bool × Unit))))) × ((Int × (Int × (Int × (Bool × Unit)))) × (Bool × Unit))))) (a1 : Int) : Option R := Fm call k  a0 a1
theorem F_eq (call : Cl) (k : Nat) (a0 : Y2_0) (a1 : Int) : bodyK E call n_laws_szVerdict k s_laws_szVerdict (a0, a1, ()) = F call k a0 a1 := by
  kernel_rfl
end laws_szVerdict
/-! #### laws_toVerdict -/
namespace laws_toVerdict
abbrev R := (((Int × ((List (Int × (Int × (Int × (Bool × Unit))))) × ((Int × (Int × (Int × (Bool × Unit)))) × (Bool × Unit)))) × Unit) × Unit)
def Fm (call : Cl) (k : Nat)  (a0 : (Int × ((List (Int × (Int × (Int × (Bool × Unit))))) × ((Int × (Int × (Int × (Bool × Unit)))) × (Bool × Unit))))) : Option R :=
    (call (24 : Nat) s_laws_toLineS (a0.snd.fst, ())).bind
    fun (y0 : (List (Int × Int × Int × Bool × PUnit) × PUnit) × PUnit) =>
    (call (25 : Nat) s_laws_toLine (a0.snd.snd.fst, ())).bind
      fun (y1 : ((Int × Int × Int × Bool × PUnit) × PUnit) × PUnit) =>
      some
        (((a0.fst, y0.fst.fst,
              (y1.fst.fst.fst, y1.fst.fst.snd.fst, y1.fst.fst.snd.snd.fst, y1.fst.fst.snd.snd.snd.fst,
                y1.fst.fst.snd.snd.snd.snd),
              a0.snd.snd.snd.fst, ()),
            ()),
          ())
def F (call : Cl) (k : Nat) (a0 : (Int × ((List (Int × (Int × (Int × (Bool × Unit))))) × ((Int × (Int × (Int × (Bool × Unit)))) × (Bool × Unit))))) : Option R := Fm call k  a0
theorem F_eq (call : Cl) (k : Nat) (a0 : Y2_0) : bodyK E call n_laws_toVerdict k s_laws_toVerdict (a0, ()) = F call k a0 := by
  kernel_rfl
end laws_toVerdict
/-! #### laws_eqVerdict -/
namespace laws_eqVerdict
abbrev R := ((Bool × Unit) × Unit)
def Fm (call : Cl) (k : Nat)  (a0 : (Int × ((List (Int × (Int × (Int × (Bool × Unit))))) × ((Int × (Int × (Int × (Bool × Unit)))) × (Bool × Unit))))) (a1 : (Int × ((List (Int × (Int × (Int × (Bool × Unit))))) × ((Int × (Int × (Int × (Bool × Unit)))) × (Bool × Unit))))) : Option R :=
    bif a0.fst != a1.fst then some ((false, ()), ())
  else
    (call (27 : Nat) s_laws_eqLineS (a0.snd.fst, a1.snd.fst, ())).bind fun (y0 : (Bool × PUnit) × PUnit) =>
      bif !y0.fst.fst then some ((false, ()), ())
      else
        (call (28 : Nat) s_laws_eqLine (a0.snd.snd.fst, a1.snd.snd.fst, ())).bind fun (y1 : (Bool × PUnit) × PUnit) =>
          bif !y1.fst.fst then some ((false, ()), ())
          else bif !a0.snd.snd.snd.fst == a1.snd.snd.snd.fst then some ((false, ()), ()) else some ((true, ()), ())
def F (call : Cl) (k : Nat) (a0 : (Int × ((List (Int × (Int × (Int × (Bool × Unit))))) × ((Int × (Int × (Int × (Bool × Unit)))) × (Bool × Unit))))) (a1 : (Int × ((List (Int × (Int × (Int × (Bool × Unit))))) × ((Int × (Int × (Int × (Bool × Unit)))) × (Bool × Unit))))) : Option R := Fm call k  a0 a1
theorem F_eq (call : Cl) (k : Nat) (a0 : Y2_0) (a1 : Y2_0) : bodyK E call n_laws_eqVerdict k s_laws_eqVerdict (a0, a1, ()) = F call k a0 a1 := by
  kernel_rfl
end laws_eqVerdict
/-! #### laws_FnExactShowVerdict -/
namespace laws_FnExactShowVerdict
abbrev R := ((Bool × Unit) × Unit)
def Fm (call : Cl) (k : Nat)  (a0 : (Int × ((List (Int × (Int × (Int × (Bool × Unit))))) × ((Int × (Int × (Int × (Bool × Unit)))) × (Bool × Unit))))) : Option R :=
    (call (10 : Nat) s_laws_szVerdict (a0, (1048576 : Int), ())).bind fun (y0 : (Int × PUnit) × PUnit) =>
    bif decide (y0.fst.fst < (0 : Int)) then some ((true, ()), ())
    else
      (call (12 : Nat) s_laws_toVerdict (a0, ())).bind
        fun
          (y1 :
            ((Int × List (Int × Int × Int × Bool × PUnit) × (Int × Int × Int × Bool × PUnit) × Bool × PUnit) × PUnit) ×
              PUnit) =>
        (call (11 : Nat) s_spec_ShowVerdict
              ((y1.fst.fst.fst, y1.fst.fst.snd.fst,
                  (y1.fst.fst.snd.snd.fst.fst, y1.fst.fst.snd.snd.fst.snd.fst, y1.fst.fst.snd.snd.fst.snd.snd.fst,
                    y1.fst.fst.snd.snd.fst.snd.snd.snd.fst, y1.fst.fst.snd.snd.fst.snd.snd.snd.snd),
                  y1.fst.fst.snd.snd.snd.fst, y1.fst.fst.snd.snd.snd.snd),
                ())).bind
          fun (y2 : (ByteArray × PUnit) × PUnit) =>
          (call (12 : Nat) s_laws_toVerdict (a0, ())).bind
            fun
              (y3 :
                ((Int × List (Int × Int × Int × Bool × PUnit) × (Int × Int × Int × Bool × PUnit) × Bool × PUnit) ×
                    PUnit) ×
                  PUnit) =>
            (call (13 : Nat) s_impl_ShowVerdict
                  ((y3.fst.fst.fst, y3.fst.fst.snd.fst,
                      (y3.fst.fst.snd.snd.fst.fst, y3.fst.fst.snd.snd.fst.snd.fst, y3.fst.fst.snd.snd.fst.snd.snd.fst,
                        y3.fst.fst.snd.snd.fst.snd.snd.snd.fst, y3.fst.fst.snd.snd.fst.snd.snd.snd.snd),
                      y3.fst.fst.snd.snd.snd.fst, y3.fst.fst.snd.snd.snd.snd),
                    ())).bind
              fun (y4 : (ByteArray × PUnit) × PUnit) =>
              bif !ByteArray.toList y4.fst.fst == ByteArray.toList y2.fst.fst then some ((false, ()), ())
              else
                (call (12 : Nat) s_laws_toVerdict (a0, ())).bind
                  fun
                    (y5 :
                      ((Int × List (Int × Int × Int × Bool × PUnit) × (Int × Int × Int × Bool × PUnit) × Bool × PUnit) ×
                          PUnit) ×
                        PUnit) =>
                  (call (14 : Nat) s_laws_eqVerdict
                        ((y3.fst.fst.fst, y3.fst.fst.snd.fst,
                            (y3.fst.fst.snd.snd.fst.fst, y3.fst.fst.snd.snd.fst.snd.fst,
                              y3.fst.fst.snd.snd.fst.snd.snd.fst, y3.fst.fst.snd.snd.fst.snd.snd.snd.fst,
                              y3.fst.fst.snd.snd.fst.snd.snd.snd.snd),
                            y3.fst.fst.snd.snd.snd.fst, y3.fst.fst.snd.snd.snd.snd),
                          (y5.fst.fst.fst, y5.fst.fst.snd.fst,
                            (y5.fst.fst.snd.snd.fst.fst, y5.fst.fst.snd.snd.fst.snd.fst,
                              y5.fst.fst.snd.snd.fst.snd.snd.fst, y5.fst.fst.snd.snd.fst.snd.snd.snd.fst,
                              y5.fst.fst.snd.snd.fst.snd.snd.snd.snd),
                            y5.fst.fst.snd.snd.snd.fst, y5.fst.fst.snd.snd.snd.snd),
                          ())).bind
                    fun (y6 : (Bool × PUnit) × PUnit) =>
                    bif !y6.fst.fst then some ((false, ()), ()) else some ((true, ()), ())
def F (call : Cl) (k : Nat) (a0 : (Int × ((List (Int × (Int × (Int × (Bool × Unit))))) × ((Int × (Int × (Int × (Bool × Unit)))) × (Bool × Unit))))) : Option R := Fm call k  a0
theorem F_eq (call : Cl) (k : Nat) (a0 : Y2_0) : bodyK E call n_laws_FnExactShowVerdict k s_laws_FnExactShowVerdict (a0, ()) = F call k a0 := by
  kernel_rfl
end laws_FnExactShowVerdict
end Go.Proofs.YtbalepejjjmioaaDoor.Pf
