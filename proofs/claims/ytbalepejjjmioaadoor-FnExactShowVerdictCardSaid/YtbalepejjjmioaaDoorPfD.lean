/- Numbers with blanks between, lines, outcomes: both sides answer the same. No condition. -/
import Derived.Test.YtbalepejjjmioaaDoorPfC
namespace Go.Proofs.YtbalepejjjmioaaDoor.Pf
open Go Go.Pv

/-- In range. -/
def Rg (n : Int) : Prop := -9223372036854775808 ≤ n ∧ n ≤ 9223372036854775807
def J (xs : List Int) : List UInt8 := Lib.join (xs.map Lib.itoa) [32]
theorem lens_le : ∀ {xs : List Int}, (∀ x ∈ xs, Rg x) → Lib.lens (xs.map Lib.itoa) ≤ 21 * xs.length
  | [], _ => by simp [Lib.lens]
  | x :: xs, h => by
    have h1 := lens_le (xs := xs) fun y hy => h y (List.mem_cons_of_mem _ hy)
    have h2 := Lib.itoa_length_le x (h x List.mem_cons_self).1 (h x List.mem_cons_self).2
    simp only [Lib.lens, List.map_cons, List.sum_cons, List.length_cons] at h1 ⊢
    omega
theorem J_len {xs : List Int} (h : ∀ x ∈ xs, Rg x) : (J xs).length ≤ 22 * xs.length := by
  unfold J
  cases xs with
  | nil => simp [Lib.join_nil]
  | cons x xs =>
    have h1 := lens_le h
    rw [List.map_cons, Lib.join_length]
    rw [List.map_cons] at h1
    simp only [List.length_cons, List.length_map, List.length_nil] at h1 ⊢
    omega
theorem le63 {a : Nat} (h : a ≤ 1000000000000) : decide (a ≤ 9223372036854775807) = true := decide_eq_true (by omega)
theorem W_take (xs : List Int) : (xs.map fun n => ba (Lib.itoa n)) = (xs.map Lib.itoa).map ba := by rw [List.map_map]; rfl
theorem take_snoc {α : Type} (xs : List α) {j : Nat} (h : j < xs.length) : xs.take j ++ [xs[j]] = xs.take (j + 1) := by
  rw [List.take_add_one, List.getElem?_eq_getElem h]; rfl

theorem spaced_loop (xs : List Int) (hl : xs.length ≤ 1048576) (hr : ∀ x ∈ xs, Rg x) : ∀ (d j : Nat), xs.length - j = d → j ≤ xs.length →
    Tq (d + 1) (fun k q => impl_spaced.L0 (cl k) k xs q (j : Int) ((xs.take j).map fun n => ba (Lib.itoa n))) (· = ((ba (J xs), ()), ()))
  | 0, j, hd, hj => by
    refine Tq.succ ?_
    show Tq 0 (fun k q => impl_spaced.step0 (cl k) k xs (impl_spaced.L0 (cl k) k xs q) (j : Int) _) _
    unfold impl_spaced.step0
    refine Tq.bf (dnlt (by omega)) ?_
    rw [List.take_of_length_le (by omega), W_take]
    have h1 := J_len hr
    refine Tq.bind (join_ans (xs.map Lib.itoa) [32] (by rw [List.length_map]; omega) (by show (J xs).length ≤ _; omega)).tq fun y hy => ?_
    subst hy
    exact Tq.ret rfl
  | d + 1, j, hd, hj => by
    have hlt : j < xs.length := by omega
    refine Tq.succ ?_
    show Tq (d + 1) (fun k q => impl_spaced.step0 (cl k) k xs (impl_spaced.L0 (cl k) k xs q) (j : Int) _) _
    unfold impl_spaced.step0
    refine Tq.bt (dlt hlt) (Tq.bt (dle0 j) (Tq.some (lg hlt) (Tq.bind (digits_ans xs[j]).tq fun y hy => ?_)))
    subst hy
    refine Tq.bt (decide_eq_true ?_) ?_
    · rw [List.length_map, List.length_take, Nat.min_eq_left hj]
      show (j + 1) * 16 ≤ _
      omega
    · rw [ws hlt (by omega)]
      have e : ((xs.take j).map fun n => ba (Lib.itoa n)) ++ [ba (Lib.itoa xs[j])] = (xs.take (j + 1)).map fun n => ba (Lib.itoa n) := by
        rw [← take_snoc xs hlt, List.map_append]; rfl
      rw [e]
      exact spaced_loop xs hl hr d (j + 1) (by omega) (by omega)
theorem spaced_ans (xs : List Int) (hl : xs.length ≤ 1048576) (hr : ∀ x ∈ xs, Rg x) : Ans n_impl_spaced s_impl_spaced (xs, ()) ((ba (J xs), ()), ()) :=
  Gv.ans (Gv.of (fun k => impl_spaced.F_eq (cl k) k xs) (Tq.diag (spaced_loop xs hl hr xs.length 0 rfl (Nat.zero_le _))))

theorem l1Ints_loop (xs : List Int) (hl : xs.length ≤ 1048576) (hr : ∀ x ∈ xs, Rg x) : ∀ (d j : Nat), xs.length - j = d → j ≤ xs.length →
    Tq (d + 1) (fun k q => spec_l1Ints.L0 (cl k) k xs q (j : Int) ((xs.take j).map fun n => ba (Lib.itoa n))) (· = ((ba (J xs), ()), ()))
  | 0, j, hd, hj => by
    refine Tq.succ ?_
    show Tq 0 (fun k q => spec_l1Ints.step0 (cl k) k xs (spec_l1Ints.L0 (cl k) k xs q) (j : Int) _) _
    unfold spec_l1Ints.step0
    refine Tq.bf (dnlt (by omega)) ?_
    rw [List.take_of_length_le (by omega), W_take]
    have h1 := J_len hr
    have hw : Ans n_spec_l1Words s_spec_l1Words ((xs.map Lib.itoa).map ba, ba [32], ()) ((ba (J xs), ()), ()) :=
      Ans.of (fun k => spec_l1Words.F_eq (cl k) k _ _) ((Ev.ge (xs.length + 2)).mono fun k hk => l1Words_joins (cl k) k (xs.map Lib.itoa) [32] (by rw [List.length_map]; omega) (by show (J xs).length ≤ _; omega) (by rw [List.length_map]; omega))
    refine Tq.bind hw.tq fun y hy => ?_
    subst hy
    exact Tq.ret rfl
  | d + 1, j, hd, hj => by
    have hlt : j < xs.length := by omega
    have hrj := hr xs[j] (List.getElem_mem hlt)
    refine Tq.succ ?_
    show Tq (d + 1) (fun k q => spec_l1Ints.step0 (cl k) k xs (spec_l1Ints.L0 (cl k) k xs q) (j : Int) _) _
    unfold spec_l1Ints.step0
    refine Tq.bt (dlt hlt) (Tq.bt (dle0 j) (Tq.some (lg hlt) (Tq.bind (l1Int_ans xs[j] hrj.1 hrj.2).tq fun y hy => ?_)))
    subst hy
    refine Tq.bt (decide_eq_true ?_) ?_
    · rw [List.length_map, List.length_take, Nat.min_eq_left hj]
      show (j + 1) * 16 ≤ _
      omega
    · rw [ws hlt (by omega)]
      have e : ((xs.take j).map fun n => ba (Lib.itoa n)) ++ [ba (Lib.itoa xs[j])] = (xs.take (j + 1)).map fun n => ba (Lib.itoa n) := by
        rw [← take_snoc xs hlt, List.map_append]; rfl
      rw [e]
      exact l1Ints_loop xs hl hr d (j + 1) (by omega) (by omega)
theorem l1Ints_ans (xs : List Int) (hl : xs.length ≤ 1048576) (hr : ∀ x ∈ xs, Rg x) : Ans n_spec_l1Ints s_spec_l1Ints (xs, ()) ((ba (J xs), ()), ()) :=
  Gv.ans (Gv.of (fun k => spec_l1Ints.F_eq (cl k) k xs) (Tq.diag (l1Ints_loop xs hl hr xs.length 0 rfl (Nat.zero_le _))))

/-! ### Outcomes -/
abbrev Oc := List Int × (Int × (Int × Unit))
/-- What is shown of an outcome. -/
def oS (o : Oc) : List UInt8 :=
  let v := if o.1.length = 0 then [45] else J o.1
  if o.2.1 = 0 then v ++ [32, 100, 111, 110, 101] else if o.2.1 = 1 then v ++ [32, 116, 104, 114, 111, 119, 32] ++ Lib.itoa o.2.2.1 else if o.2.1 = 2 then v ++ [32, 116, 114, 97, 112, 32] ++ Lib.itoa o.2.2.1 else []
theorem beq_t {a b : Int} (h : a = b) : (a == b) = true := by simp [h]
theorem beq_f {a b : Int} (h : a ≠ b) : (a == b) = false := by simp [h]

theorem implShow_ans (o : Oc) (hl : o.1.length ≤ 1048576) (hr : ∀ x ∈ o.1, Rg x) (hc : Rg o.2.2.1) : Ans n_impl_ShowOutcome s_impl_ShowOutcome (o, ()) ((ba (oS o), ()), ()) := by
  obtain ⟨vs, en, cd, ⟨⟩⟩ := o
  have h1 : (J vs).length ≤ 22 * vs.length := J_len hr
  have hl : vs.length ≤ 1048576 := hl
  have h2 := Lib.itoa_length_le cd hc.1 hc.2
  refine Gv.ans (Gv.of (fun k => impl_ShowOutcome.F_eq (cl k) k (vs, en, cd, ())) ?_)
  unfold impl_ShowOutcome.F impl_ShowOutcome.Fm
  refine Tq.bind (spaced_ans vs hl hr).tq fun y hy => ?_
  subst hy
  unfold oS
  by_cases h0 : vs.length = 0
  · simp only [h0, if_true]
    refine Tq.bt rfl ?_
    by_cases e0 : en = 0
    · simp only [e0, if_true]
      exact Tq.bt rfl (Tq.ret rfl)
    · simp only [e0, if_false]
      refine Tq.bf (beq_f e0) ?_
      by_cases e1 : en = 1
      · simp only [e1, if_true]
        refine Tq.bt rfl (Tq.bind (digits_ans cd).tq fun y hy => ?_)
        subst hy
        refine Tq.bt (le63 ?_) (Tq.ret ?_)
        · show 8 + (ba (Lib.itoa cd)).size ≤ _
          rw [ba_size]; omega
        · show ((ba [45] ++ ba [32, 116, 104, 114, 111, 119, 32] ++ ba (Lib.itoa cd), ()), ()) = _
          simp only [ba_app]
      · simp only [e1, if_false]
        refine Tq.bf (beq_f e1) ?_
        by_cases e2 : en = 2
        · simp only [e2, if_true]
          refine Tq.bt rfl (Tq.bind (digits_ans cd).tq fun y hy => ?_)
          subst hy
          refine Tq.bt (le63 ?_) (Tq.ret ?_)
          · show 7 + (ba (Lib.itoa cd)).size ≤ _
            rw [ba_size]; omega
          · show ((ba [45] ++ ba [32, 116, 114, 97, 112, 32] ++ ba (Lib.itoa cd), ()), ()) = _
            simp only [ba_app]
        · simp only [e2, if_false]
          exact Tq.bf (beq_f e2) (Tq.ret rfl)
  · simp only [h0, if_false]
    refine Tq.bf (beq_f (by show ((vs.length : Nat) : Int) ≠ 0; omega)) ?_
    by_cases e0 : en = 0
    · simp only [e0, if_true]
      refine Tq.bt rfl (Tq.bt (le63 ?_) (Tq.ret ?_))
      · show (ba (J vs)).size + 5 ≤ _
        rw [ba_size]; omega
      · show ((ba (J vs) ++ ba [32, 100, 111, 110, 101], ()), ()) = _
        simp only [ba_app]
    · simp only [e0, if_false]
      refine Tq.bf (beq_f e0) ?_
      by_cases e1 : en = 1
      · simp only [e1, if_true]
        refine Tq.bt rfl (Tq.bt (le63 ?_) (Tq.bind (digits_ans cd).tq fun y hy => ?_))
        · show (ba (J vs)).size + 7 ≤ _
          rw [ba_size]; omega
        subst hy
        refine Tq.bt (le63 ?_) (Tq.ret ?_)
        · show (ba (J vs) ++ ba [32, 116, 104, 114, 111, 119, 32]).size + (ba (Lib.itoa cd)).size ≤ _
          rw [ba_app, ba_size, ba_size, List.length_append]; simp only [List.length_cons, List.length_nil]; omega
        · show ((ba (J vs) ++ ba [32, 116, 104, 114, 111, 119, 32] ++ ba (Lib.itoa cd), ()), ()) = _
          simp only [ba_app]
      · simp only [e1, if_false]
        refine Tq.bf (beq_f e1) ?_
        by_cases e2 : en = 2
        · simp only [e2, if_true]
          refine Tq.bt rfl (Tq.bt (le63 ?_) (Tq.bind (digits_ans cd).tq fun y hy => ?_))
          · show (ba (J vs)).size + 6 ≤ _
            rw [ba_size]; omega
          subst hy
          refine Tq.bt (le63 ?_) (Tq.ret ?_)
          · show (ba (J vs) ++ ba [32, 116, 114, 97, 112, 32]).size + (ba (Lib.itoa cd)).size ≤ _
            rw [ba_app, ba_size, ba_size, List.length_append]; simp only [List.length_cons, List.length_nil]; omega
          · show ((ba (J vs) ++ ba [32, 116, 114, 97, 112, 32] ++ ba (Lib.itoa cd), ()), ()) = _
            simp only [ba_app]
        · simp only [e2, if_false]
          exact Tq.bf (beq_f e2) (Tq.ret rfl)
theorem specShow_ans (o : Oc) (hl : o.1.length ≤ 1048576) (hr : ∀ x ∈ o.1, Rg x) (hc : Rg o.2.2.1) : Ans n_spec_ShowOutcome s_spec_ShowOutcome (o, ()) ((ba (oS o), ()), ()) := by
  obtain ⟨vs, en, cd, ⟨⟩⟩ := o
  have h1 : (J vs).length ≤ 22 * vs.length := J_len hr
  have hl : vs.length ≤ 1048576 := hl
  have h2 := Lib.itoa_length_le cd hc.1 hc.2
  refine Gv.ans (Gv.of (fun k => spec_ShowOutcome.F_eq (cl k) k (vs, en, cd, ())) ?_)
  unfold spec_ShowOutcome.F spec_ShowOutcome.Fm
  unfold oS
  by_cases h0 : vs.length = 0
  · simp only [h0, if_true]
    refine Tq.bf rfl ?_
    by_cases e0 : en = 0
    · simp only [e0, if_true]
      exact Tq.bt rfl (Tq.ret rfl)
    · simp only [e0, if_false]
      refine Tq.bf (beq_f e0) ?_
      by_cases e1 : en = 1
      · simp only [e1, if_true]
        refine Tq.bt rfl (Tq.bind (l1Int_ans cd hc.1 hc.2).tq fun y hy => ?_)
        subst hy
        refine Tq.bt (le63 ?_) (Tq.ret ?_)
        · show 8 + (ba (Lib.itoa cd)).size ≤ _
          rw [ba_size]; omega
        · show ((ba [45] ++ ba [32, 116, 104, 114, 111, 119, 32] ++ ba (Lib.itoa cd), ()), ()) = _
          simp only [ba_app]
      · simp only [e1, if_false]
        refine Tq.bf (beq_f e1) ?_
        by_cases e2 : en = 2
        · simp only [e2, if_true]
          refine Tq.bt rfl (Tq.bind (l1Int_ans cd hc.1 hc.2).tq fun y hy => ?_)
          subst hy
          refine Tq.bt (le63 ?_) (Tq.ret ?_)
          · show 7 + (ba (Lib.itoa cd)).size ≤ _
            rw [ba_size]; omega
          · show ((ba [45] ++ ba [32, 116, 114, 97, 112, 32] ++ ba (Lib.itoa cd), ()), ()) = _
            simp only [ba_app]
        · simp only [e2, if_false]
          exact Tq.bf (beq_f e2) (Tq.ret rfl)
  · simp only [h0, if_false]
    refine Tq.bt (decide_eq_true (by show ((vs.length : Nat) : Int) > 0; omega)) (Tq.bind (l1Ints_ans vs hl hr).tq fun y hy => ?_)
    subst hy
    by_cases e0 : en = 0
    · simp only [e0, if_true]
      refine Tq.bt rfl (Tq.bt (le63 ?_) (Tq.ret ?_))
      · show (ba (J vs)).size + 5 ≤ _
        rw [ba_size]; omega
      · show ((ba (J vs) ++ ba [32, 100, 111, 110, 101], ()), ()) = _
        simp only [ba_app]
    · simp only [e0, if_false]
      refine Tq.bf (beq_f e0) ?_
      by_cases e1 : en = 1
      · simp only [e1, if_true]
        refine Tq.bt rfl (Tq.bt (le63 ?_) (Tq.bind (l1Int_ans cd hc.1 hc.2).tq fun y hy => ?_))
        · show (ba (J vs)).size + 7 ≤ _
          rw [ba_size]; omega
        subst hy
        refine Tq.bt (le63 ?_) (Tq.ret ?_)
        · show (ba (J vs) ++ ba [32, 116, 104, 114, 111, 119, 32]).size + (ba (Lib.itoa cd)).size ≤ _
          rw [ba_app, ba_size, ba_size, List.length_append]; simp only [List.length_cons, List.length_nil]; omega
        · show ((ba (J vs) ++ ba [32, 116, 104, 114, 111, 119, 32] ++ ba (Lib.itoa cd), ()), ()) = _
          simp only [ba_app]
      · simp only [e1, if_false]
        refine Tq.bf (beq_f e1) ?_
        by_cases e2 : en = 2
        · simp only [e2, if_true]
          refine Tq.bt rfl (Tq.bt (le63 ?_) (Tq.bind (l1Int_ans cd hc.1 hc.2).tq fun y hy => ?_))
          · show (ba (J vs)).size + 6 ≤ _
            rw [ba_size]; omega
          subst hy
          refine Tq.bt (le63 ?_) (Tq.ret ?_)
          · show (ba (J vs) ++ ba [32, 116, 114, 97, 112, 32]).size + (ba (Lib.itoa cd)).size ≤ _
            rw [ba_app, ba_size, ba_size, List.length_append]; simp only [List.length_cons, List.length_nil]; omega
          · show ((ba (J vs) ++ ba [32, 116, 114, 97, 112, 32] ++ ba (Lib.itoa cd), ()), ()) = _
            simp only [ba_app]
        · simp only [e2, if_false]
          exact Tq.bf (beq_f e2) (Tq.ret rfl)
end Go.Proofs.YtbalepejjjmioaaDoor.Pf
