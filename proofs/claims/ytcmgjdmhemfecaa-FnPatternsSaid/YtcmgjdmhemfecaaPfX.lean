/- Models and one literal more. No condition. -/
import Derived.Test.YtcmgjdmhemfecaaPfU
import Derived.Test.YtcmgjdmhemfecaaPfW
namespace Go.Proofs.Ytcmgjdmhemfecaa.Pf
open Go Go.Pv

theorem likeInts_ans (a : List Int) (ha : a.length ≤ maxLen) : Ans 84 s_laws_likeInts (a, a, ()) ((true, ()), ()) := by
  refine Ans.of (fun k => laws_likeInts.F_eq (cl k) k a a) ?_
  have key : ∀ (d k n j : Nat), a.length - j = d → d < n → laws_likeInts.L0 (cl k) k a a n (j : Int) = some ((true, ()), ()) := by
    intro d
    induction d with
    | zero =>
      intro k n j hd hn
      obtain ⟨n, rfl⟩ : ∃ m, n = m + 1 := ⟨n - 1, by omega⟩
      simp only [laws_likeInts.L0, laws_likeInts.step0, dnlt (show a.length ≤ j by omega), cond_false]
    | succ d ih =>
      intro k n j hd hn
      obtain ⟨n, rfl⟩ : ∃ m, n = m + 1 := ⟨n - 1, by omega⟩
      have hj : j < a.length := by omega
      have h0 : decide ((0 : Int) ≤ (j : Int)) = true := decide_eq_true (by omega)
      simp only [laws_likeInts.L0, laws_likeInts.step0, dlt hj, cond_true, h0, lg hj, Option.bind_some, ws hj (maxLen_eq ▸ ha), bne_self_eq_false, cond_false]
      exact ih k n (j + 1) (by omega) (by omega)
  refine (Ev.ge (a.length + 1)).mono fun k hk => ?_
  simp only [laws_likeInts.F, laws_likeInts.Fm, bne_self_eq_false, cond_false]
  exact key a.length k k 0 rfl (by omega)

theorem filt_two (p q : Nat → Bool) : ∀ l : List Nat, (l.filter fun n => p n && q n).length + (l.filter fun n => p n && !q n).length = (l.filter p).length
  | [] => rfl
  | n :: l => by
    have h := filt_two p q l
    cases hp : p n <;> cases hq : q n <;> simp [hp, hq] <;> omega

/-- One literal more. -/
def more (c : Cnf) (x : Int) : Cnf := (c.1, c.2.1 ++ [[x]], ())
theorem more_ok {c : Cnf} (h : CnfRight c) (hl : c.2.1.length < 60) {x : Int} (hx : (x.natAbs : Int) ∈ usedL c.2.1) : CnfRight (more c x) ∧ usedL (more c x).2.1 = usedL c.2.1 := by
  have hv := h.uV hx
  have hr : (0 ≤ (more c x).1 ∧ (more c x).1 ≤ 300) ∧ ∀ l ∈ (more c x).2.1, ClauseOk (more c x).1 l := by
    refine ⟨h.1, fun l hl => ?_⟩
    rcases List.mem_append.1 hl with hl | hl
    · exact h.2.2.1 l hl
    · rw [List.mem_singleton.1 hl]
      refine ⟨by simp, fun j hj => ?_⟩
      have hj0 : j = 0 := by simp only [List.length_singleton] at hj; omega
      subst hj0
      refine ⟨by show x ≠ 0; omega, ⟨by show -c.1 ≤ x; omega, by show x ≤ c.1; omega⟩, fun i hi => by omega⟩
  have hu : usedL (more c x).2.1 = usedL c.2.1 := rise_eq (usedL_rise _) (usedL_rise _) fun y => by
    rw [usedL_mem (CnfRight.range hr)]
    constructor
    · rintro ⟨l, hl, n, hn, e⟩
      rcases List.mem_append.1 hl with hl | hl
      · exact (usedL_mem h.range').2 ⟨l, hl, n, hn, e⟩
      · rw [List.mem_singleton.1 hl] at hn
        rw [List.mem_singleton.1 hn] at e
        rw [← e]; exact hx
    · intro hy
      obtain ⟨l, hl, n, hn, e⟩ := (usedL_mem h.range').1 hy
      exact ⟨l, List.mem_append_left _ hl, n, hn, e⟩
  refine ⟨⟨hr.1, ?_, hr.2, by rw [hu]; exact h.2.2.2⟩, hu⟩
  show (c.2.1 ++ [[x]]).length ≤ 60
  rw [List.length_append, List.length_singleton]; omega
theorem more_models (u : List Int) (c : List (List Int)) (x : Int) : models u (c ++ [[x]]) = (List.range (2 ^ u.length)).filter fun n => hold u c n && litU u n x := by
  unfold models
  congr 1
  funext n
  simp [hold, List.all_append]
theorem lit_yes {u : List Int} {v : Int} (hv : 1 ≤ v) (n : Nat) : litU u n v = valU u n v := by
  unfold litU
  rw [decide_eq_true (show v > 0 by omega), show (v.natAbs : Int) = v by omega]
  cases valU u n v <;> rfl
theorem lit_no {u : List Int} {v : Int} (hv : 1 ≤ v) (n : Nat) : litU u n (-v) = !valU u n v := by
  unfold litU
  rw [decide_eq_false (show ¬ -v > 0 by omega), show ((-v).natAbs : Int) = v by omega]
  cases valU u n v <;> rfl
/-- The counts of both add up. -/
theorem more_sum {c : Cnf} (h : CnfRight c) (hl : c.2.1.length < 60) {v : Int} (hv : v ∈ usedL c.2.1) :
    ∃ a b : Nat, countM (more c v) = dig a ∧ countM (more c (-v)) = dig b ∧ countM c = dig (a + b) ∧ (dig (a + b)).length ≤ 25 ∧ (dig a).length ≤ 25 ∧ (dig b).length ≤ 25 := by
  have h1 := h.uV hv
  obtain ⟨o1, u1⟩ := more_ok h hl (x := v) (by rw [show (v.natAbs : Int) = v by omega]; exact hv)
  obtain ⟨o2, u2⟩ := more_ok h hl (x := -v) (by rw [show ((-v).natAbs : Int) = v by omega]; exact hv)
  have e1 : countM (more c v) = dig ((models (usedL c.2.1) (more c v).2.1).length * 2 ^ (c.1.toNat - (usedL c.2.1).length)) := by
    unfold countM; rw [if_pos o1, u1]; rfl
  have e2 : countM (more c (-v)) = dig ((models (usedL c.2.1) (more c (-v)).2.1).length * 2 ^ (c.1.toNat - (usedL c.2.1).length)) := by
    unfold countM; rw [if_pos o2, u2]; rfl
  have e3 : countM c = dig ((models (usedL c.2.1) c.2.1).length * 2 ^ (c.1.toNat - (usedL c.2.1).length)) := by
    unfold countM; rw [if_pos h]
  have hs : (models (usedL c.2.1) (more c v).2.1).length + (models (usedL c.2.1) (more c (-v)).2.1).length = (models (usedL c.2.1) c.2.1).length := by
    show (models _ (c.2.1 ++ [[v]])).length + (models _ (c.2.1 ++ [[-v]])).length = _
    rw [more_models, more_models]
    simp only [lit_yes h1.1, lit_no h1.1]
    exact filt_two _ _ _
  refine ⟨_, _, e1, e2, by rw [e3, ← Nat.add_mul, hs], ?_, by rw [← e1]; exact countM_len _, by rw [← e2]; exact countM_len _⟩
  rw [← Nat.add_mul, hs, ← e3]; exact countM_len _

/-- What is forced holds in the first model. -/
theorem forced_ok {u : List Int} {n : Nat} {L : List Nat} {y : Int} (hy : y ∈ forceL u (n :: L) u) : ∃ x ∈ u, (y = x ∧ valU u n x = true) ∨ (y = -x ∧ valU u n x = false) := by
  obtain ⟨x, hx, hy⟩ := List.mem_flatMap.1 hy
  refine ⟨x, hx, ?_⟩
  unfold forceAt at hy
  split at hy
  · rename_i h
    exact .inl ⟨List.mem_singleton.1 hy, List.all_eq_true.1 h n List.mem_cons_self⟩
  · split at hy
    · rename_i h
      have := List.all_eq_true.1 h n List.mem_cons_self
      exact .inr ⟨List.mem_singleton.1 hy, by simpa using this⟩
    · cases hy
theorem dig_nil {m t : Nat} : dig (m * 2 ^ t) = [] ↔ m = 0 := by
  constructor
  · intro h
    have := dig_val (m * 2 ^ t)
    rw [h] at this
    have h2 : m * 2 ^ t = 0 := this.symm
    have := Nat.two_pow_pos t
    rcases Nat.mul_eq_zero.1 h2 with h | h
    · exact h
    · omega
  · rintro rfl
    rw [Nat.zero_mul]; exact (dig_can 0).zero (dig_val 0)
end Go.Proofs.Ytcmgjdmhemfecaa.Pf
