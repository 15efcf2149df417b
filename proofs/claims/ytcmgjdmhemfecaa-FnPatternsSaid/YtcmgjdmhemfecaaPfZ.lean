/- Patterns of all variables, of none, of some. No condition. -/
import Derived.Test.YtcmgjdmhemfecaaPfY
namespace Go.Proofs.Ytcmgjdmhemfecaa.Pf
open Go Go.Pv

theorem filt_not (p : Int → Bool) : ∀ l : List Int, (l.filter p).length + (l.filter fun x => !p x).length = l.length
  | [] => rfl
  | x :: l => by
    have h := filt_not p l
    cases hp : p x <;> simp [hp] <;> omega
def allL (V : Nat) : List Int := (List.range V).map fun (v : Nat) => (v : Int) + 1
theorem allL_len (V : Nat) : (allL V).length = V := by simp [allL]
theorem allL_mem {V : Nat} {x : Int} : x ∈ allL V ↔ 1 ≤ x ∧ x ≤ V := by
  unfold allL
  rw [List.mem_map]
  constructor
  · rintro ⟨v, hv, rfl⟩
    have := List.mem_range.1 hv
    omega
  · intro h
    exact ⟨(x - 1).toNat, List.mem_range.2 (by omega), by omega⟩
theorem allL_rise (V : Nat) : Rise (allL V) := by
  unfold allL Rise
  rw [List.pairwise_map]
  exact List.pairwise_lt_range.imp fun h => by omega
theorem allL_succ (V : Nat) : allL (V + 1) = allL V ++ [(V : Int) + 1] := by
  unfold allL
  rw [List.range_succ, List.map_append]; rfl
theorem rise_ok {V : Int} {l : List Int} (hr : Rise l) (h : ∀ x ∈ l, 1 ≤ x ∧ x ≤ V) : KeepOk V l := fun j hj => ⟨h _ (List.getElem_mem hj), fun h0 => hr.lt (by omega) hj (by omega)⟩

/-- What is kept of all is what is used. -/
theorem kept_all {V : Nat} {u : List Int} (hu : Rise u) (h : ∀ x ∈ u, 1 ≤ x ∧ x ≤ (V : Int)) : keptL u (allL V) = u := by
  refine rise_eq (List.Pairwise.filter _ (allL_rise V)) hu fun x => ?_
  unfold keptL
  rw [List.mem_filter, decide_eq_true_eq, allL_mem]
  exact ⟨fun h => h.2, fun hx => ⟨h x hx, hx⟩⟩
theorem key_all {V : Nat} {u : List Int} (h : ∀ x ∈ u, 1 ≤ x ∧ x ≤ (V : Int)) {n : Nat} (hn : n < 2 ^ u.length) : keyU u (allL V) n = n := by
  unfold keyU
  apply Nat.eq_of_testBit_eq
  intro b
  rw [Nat.testBit_and]
  by_cases hb : b < u.length
  · have hi : u.length - 1 - b < u.length := by omega
    have := (maskJ_bit u (allL V) (u.length - 1 - b) hi u.length (Nat.le_refl _)).2 ⟨hi, allL_mem.2 (h _ (List.getElem_mem hi))⟩
    rw [show u.length - 1 - (u.length - 1 - b) = b by omega] at this
    rw [show (maskU u (allL V)).testBit b = true from this, Bool.and_true]
  · rw [Nat.testBit_lt_two_pow (Nat.lt_of_lt_of_le hn (Nat.pow_le_pow_right (by omega) (by omega))), Bool.false_and]
theorem firsts_id (key : Nat → Nat) (l : List Nat) (hl : l.Pairwise (· < ·)) (hk : ∀ n ∈ l, key n = n) : ∀ j, j ≤ l.length → firsts key (l.take j) = l.take j
  | 0, _ => rfl
  | j + 1, hj => by
    have ih := firsts_id key l hl hk j (by omega)
    rw [List.take_succ_eq_append_getElem (by omega), firsts_snoc, ih]
    unfold addF
    rw [if_neg]
    rw [List.any_eq_true]
    rintro ⟨m, hm, he⟩
    have he := beq_iff_eq.1 he
    rw [hk m (List.mem_of_mem_take hm), hk _ (List.getElem_mem _)] at he
    obtain ⟨i, hi, e⟩ := List.getElem_of_mem hm
    rw [List.getElem_take] at e
    rw [List.length_take] at hi
    have := List.pairwise_iff_getElem.1 hl i j (by omega) (by omega) (by omega)
    omega
theorem models_rise (u : List Int) (c : List (List Int)) : (models u c).Pairwise (· < ·) := List.Pairwise.filter _ List.pairwise_lt_range
theorem pat_all {c : Cnf} (h : CnfRight c) : patM c (allL c.1.toNat) = countM c := by
  have hV : ((c.1.toNat : Nat) : Int) = c.1 := by have := h.1; omega
  have hu : ∀ x ∈ usedL c.2.1, 1 ≤ x ∧ x ≤ ((c.1.toNat : Nat) : Int) := fun x hx => by rw [hV]; exact h.uV hx
  have hk : KeepOk c.1 (allL c.1.toNat) := rise_ok (allL_rise _) fun x hx => by have := allL_mem.1 hx; omega
  unfold patM countM
  rw [if_pos ⟨h, hk⟩, if_pos h, kept_all (usedL_rise _) hu, allL_len]
  have := firsts_id (keyU (usedL c.2.1) (allL c.1.toNat)) (models (usedL c.2.1) c.2.1) (models_rise _ _) (fun n hn => key_all hu (models_lt hn)) _ (Nat.le_refl _)
  rw [List.take_length] at this
  rw [this]

theorem mask_none (u : List Int) : ∀ j, maskJ u [] j = 0
  | 0 => rfl
  | j + 1 => by rw [show maskJ u [] (j + 1) = if u.getD j 0 ∈ [] then maskJ u [] j ||| 2 ^ (u.length - 1 - j) else maskJ u [] j from rfl, if_neg (by simp)]; exact mask_none u j
theorem firsts_same (key : Nat → Nat) (k0 : Nat) (hk : ∀ n, key n = k0) (n : Nat) : ∀ l : List Nat, (n :: l).length = l.length + 1 ∧ l.foldl (addF key) [n] = [n]
  | [] => ⟨rfl, rfl⟩
  | m :: l => by
    refine ⟨rfl, ?_⟩
    rw [List.foldl_cons, show addF key [n] m = [n] from ?_]
    · exact (firsts_same key k0 hk n l).2
    · unfold addF
      rw [if_pos (by simp [hk])]
theorem pat_none {c : Cnf} (h : CnfRight c) : patM c [] = if models (usedL c.2.1) c.2.1 = [] then [] else [1] := by
  have hk : KeepOk c.1 [] := fun j hj => by simp at hj
  unfold patM
  rw [if_pos ⟨h, hk⟩]
  have hkey : ∀ n, keyU (usedL c.2.1) [] n = 0 := fun n => by
    unfold keyU maskU; rw [mask_none, Nat.and_zero]
  cases hL : models (usedL c.2.1) c.2.1 with
  | nil => rfl
  | cons n l =>
    rw [show firsts (keyU (usedL c.2.1) []) (n :: l) = [n] from (firsts_same _ 0 hkey n l).2, if_neg (by simp)]
    rfl
theorem pat_le {c : Cnf} (h : CnfRight c) (keep : List Int) : val (patM c keep) ≤ val (countM c) := by
  unfold patM
  split
  · rename_i hk
    have hk := hk.2
    unfold countM
    rw [if_pos h, dig_val, dig_val]
    refine Nat.mul_le_mul (firsts_len _ _) (Nat.pow_le_pow_right (by omega) ?_)
    have hV : ((c.1.toNat : Nat) : Int) = c.1 := by have := h.1; omega
    have hu : ∀ x ∈ usedL c.2.1, 1 ≤ x ∧ x ≤ ((c.1.toNat : Nat) : Int) := fun x hx => by rw [hV]; exact h.uV hx
    have h1 := filt_not (fun x => decide (x ∈ usedL c.2.1)) keep
    have h2 := filt_not (fun x => decide (x ∈ usedL c.2.1)) (allL c.1.toNat)
    have h3 : (allL c.1.toNat).filter (fun x => decide (x ∈ usedL c.2.1)) = usedL c.2.1 := kept_all (usedL_rise _) hu
    rw [h3, allL_len] at h2
    have h4 : keep.filter (fun x => !decide (x ∈ usedL c.2.1)) = ((allL c.1.toNat).filter fun x => !decide (x ∈ usedL c.2.1)).filter fun x => decide (x ∈ keep) := by
      refine rise_eq (List.Pairwise.filter _ hk.rise) (List.Pairwise.filter _ (List.Pairwise.filter _ (allL_rise _))) fun x => ?_
      rw [List.mem_filter, List.mem_filter, List.mem_filter, allL_mem, decide_eq_true_eq]
      constructor
      · rintro ⟨a, b⟩
        exact ⟨⟨by have := hk.range x a; omega, b⟩, a⟩
      · rintro ⟨⟨_, b⟩, a⟩
        exact ⟨a, b⟩
    have h5 := List.length_filter_le (fun x => decide (x ∈ keep)) ((allL c.1.toNat).filter fun x => !decide (x ∈ usedL c.2.1))
    rw [← h4] at h5
    have h6 : (keptL (usedL c.2.1) keep).length = (keep.filter fun x => decide (x ∈ usedL c.2.1)).length := rfl
    omega
  · exact Nat.zero_le _
theorem patM_can (c : Cnf) (keep : List Int) : Can (patM c keep) := by
  unfold patM
  split
  · exact dig_can _
  · trivial
theorem countM_can (c : Cnf) : Can (countM c) := by
  unfold countM
  split
  · exact dig_can _
  · trivial
end Go.Proofs.Ytcmgjdmhemfecaa.Pf
