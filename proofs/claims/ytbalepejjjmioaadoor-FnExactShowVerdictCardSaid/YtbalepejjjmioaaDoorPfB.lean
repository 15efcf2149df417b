/- Words put together: what the reference's loop makes. No condition. -/
import Derived.Test.YtbalepejjjmioaaDoorPfA
import Derived.Lib.Join
namespace Go.Proofs.YtbalepejjjmioaaDoor.Pf
open Go Go.Pv

theorem tail_cons (sep x : List UInt8) (r : List (List UInt8)) : Lib.joinTail sep (x :: r) = sep ++ x ++ Lib.joinTail sep r := by
  unfold Lib.joinTail
  rw [List.map_cons, List.flatten_cons]
theorem l1Words_loop (call : Cl) (k : Nat) (xs : List (List UInt8)) (sep : List UInt8) (hx : xs.length ≤ 1000000000000) : ∀ (d j q : Nat) (acc : List UInt8), xs.length - j = d → 1 ≤ j → j ≤ xs.length →
    (acc ++ Lib.joinTail sep (xs.drop j)).length ≤ 1000000000000 → d < q → spec_l1Words.L0 call k (xs.map ba) (ba sep) q (ba acc) (j : Int) = some ((ba (acc ++ Lib.joinTail sep (xs.drop j)), ()), ())
  | 0, j, q + 1, acc, hd, h1, hj, hM, hq => by
    unfold spec_l1Words.L0 spec_l1Words.step0
    refine bif_f (decide_eq_false (by rw [List.length_map]; omega)) ?_
    rw [List.drop_of_length_le (by omega), show Lib.joinTail sep [] = [] from rfl, List.append_nil]
  | d + 1, j, q + 1, acc, hd, h1, hj, hM, hq => by
    have hj : j < xs.length := by omega
    have hg : lget (xs.map ba) ((j : Int)).toNat = some (ba xs[j]) := by
      rw [Int.toNat_natCast]
      show (xs.map ba)[j]? = _
      rw [List.getElem?_map, List.getElem?_eq_getElem hj]; rfl
    have hM2 := hM
    rw [List.drop_eq_getElem_cons hj, tail_cons, List.length_append, List.length_append, List.length_append] at hM2
    have hw : IntKind.i64.wrap ((j : Int) + 1) = ((j + 1 : Nat) : Int) := by rw [w64 (by omega) (by omega)]; omega
    unfold spec_l1Words.L0 spec_l1Words.step0
    refine bif_t (decide_eq_true (by rw [List.length_map]; omega)) (bif_t (decide_eq_true (by omega)) (bif_t (decide_eq_true (by rw [ba_size, ba_size]; omega)) (bif_t (decide_eq_true (by omega)) ?_)))
    rw [hg, Option.bind_some, ba_app]
    refine bif_t (decide_eq_true (by rw [ba_size, ba_size, List.length_append]; omega)) ?_
    rw [ba_app, hw, l1Words_loop call k xs sep hx d (j + 1) q _ (by omega) (by omega) (by omega) (by rw [List.length_append, List.length_append, List.length_append]; omega) (by omega),
      List.drop_eq_getElem_cons hj, tail_cons]
    simp only [List.append_assoc]
  | 0, j, 0, acc, _, _, _, _, hq => by omega
  | d + 1, j, 0, acc, _, _, _, _, hq => by omega
/-- The reference's words, put together, are the usual ones. -/
theorem l1Words_joins (call : Cl) (k : Nat) (xs : List (List UInt8)) (sep : List UInt8) (hx : xs.length ≤ 1000000000000) (hM : (Lib.join xs sep).length ≤ 1000000000000) (hk : xs.length + 1 < k) :
    spec_l1Words.F call k (xs.map ba) (ba sep) = some ((ba (Lib.join xs sep), ()), ()) := by
  show spec_l1Words.L0 call k (xs.map ba) (ba sep) k (ba []) 0 = _
  obtain ⟨q, rfl⟩ : ∃ q, k = q + 1 := ⟨k - 1, by omega⟩
  cases xs with
  | nil => rfl
  | cons x r =>
    rw [Lib.join_cons] at hM ⊢
    rw [List.length_append] at hM
    rw [List.length_cons] at hx hk
    unfold spec_l1Words.L0 spec_l1Words.step0
    refine bif_t (decide_eq_true (by rw [List.length_map, List.length_cons]; omega)) (bif_f rfl (bif_t rfl ?_))
    have hg : lget ((x :: r).map ba) (Int.toNat 0) = some (ba x) := rfl
    rw [hg, Option.bind_some, ba_app, List.nil_append]
    refine bif_t (decide_eq_true (by rw [ba_size, ba_size]; simp only [List.length_nil]; omega)) ?_
    exact l1Words_loop call (q + 1) (x :: r) sep (by rw [List.length_cons]; omega) r.length 1 q x (by rw [List.length_cons]; omega) (Nat.le_refl _) (by rw [List.length_cons]; omega) (by rw [List.length_append]; exact hM) (by omega)
end Go.Proofs.YtbalepejjjmioaaDoor.Pf
