/- Clauses that are right, and what they use. No condition. -/
import Derived.Test.YtcmgjdmhemfecaaPfA
import Derived.Test.YtcmgjdmhemfecaaPfT1
namespace Go.Proofs.Ytcmgjdmhemfecaa.Pf
open Go Go.Pv

theorem cl_succ (k g : Nat) (s : Sg) (l : s.A.den) : cl (k + 1) g s l = bodyK E (cl k) g k s l := rfl
theorem Ev.succ {p : Nat → Prop} (h : ∀ k, p (k + 1)) : Ev p := ⟨1, fun k hk => by
  obtain ⟨k, rfl⟩ : ∃ m, k = m + 1 := ⟨k - 1, by omega⟩
  exact h k⟩

/-! ### Small functions -/
def absW (n : Int) : Int := if n < 0 then IntKind.i64.wrap (0 - n) else n
theorem absW_eq {n : Int} (h : -9223372036854775807 ≤ n) (h2 : n ≤ 9223372036854775807) : absW n = (n.natAbs : Int) := by
  unfold absW
  split
  · rw [w64 (by omega) (by omega)]; omega
  · omega
def absV (n : Int) : Int := max n (IntKind.i64.wrap (0 - n))
theorem absV_eq {n : Int} (h : -9223372036854775807 ≤ n) (h2 : n ≤ 9223372036854775807) : absV n = (n.natAbs : Int) := by
  unfold absV
  rw [w64 (by omega) (by omega)]; omega

def InK (k : Nat) : Prop := ∀ a b c : Int, cl k 88 s_spec_l1In (a, b, c, ()) = some ((decide (b ≤ a) && decide (a ≤ c), ()), ())
theorem l1In_ev : Ev InK := Ev.succ fun k a b c => by
  rw [cl_succ, spec_l1In.F_eq (cl k) k a b c]
  simp only [spec_l1In.F, spec_l1In.Fm, ge_iff_le]
  cases decide (b ≤ a) <;> simp
def AbsK (k : Nat) : Prop := ∀ n : Int, cl k 148 s_spec_l14Abs (n, ()) = some ((absW n, ()), ())
theorem l14Abs_ev : Ev AbsK := Ev.succ fun k n => by
  rw [cl_succ, spec_l14Abs.F_eq (cl k) k n]
  simp only [spec_l14Abs.F, spec_l14Abs.Fm, absW]
  by_cases h : n < 0
  · rw [decide_eq_true h, if_pos h]; rfl
  · rw [decide_eq_false h, if_neg h]; rfl
def VarK (k : Nat) : Prop := ∀ n : Int, cl k 150 s_impl_variableOf (n, ()) = some ((absV n, ()), ())
theorem variableOf_ev : Ev VarK := Ev.succ fun k n => by
  rw [cl_succ, impl_variableOf.F_eq (cl k) k n]
  rfl

/-! ### Clauses -/
def okAt (vars : Int) (l : List Int) (j : Nat) : Prop := ∀ h : j < l.length, l[j] ≠ 0 ∧ (-vars ≤ l[j] ∧ l[j] ≤ vars) ∧ ∀ (i : Nat) (hi : i < j), (l[i]'(by omega)).natAbs ≠ l[j].natAbs
def ClauseOk (vars : Int) (l : List Int) : Prop := l.length ≤ 12 ∧ ∀ j, okAt vars l j

theorem ClauseOk.range {vars : Int} {l : List Int} (h : ClauseOk vars l) : ∀ n ∈ l, n ≠ 0 ∧ -vars ≤ n ∧ n ≤ vars := by
  intro n hn
  obtain ⟨j, hj, rfl⟩ := List.getElem_of_mem hn
  exact ⟨(h.2 j hj).1, (h.2 j hj).2.1⟩

theorem spec_inner (l : List Int) (j : Nat) (hj : j < l.length) (hl : l.length ≤ maxLen) (hr : ∀ i (hi : i ≤ j), (-300 ≤ l[i]'(by omega) ∧ l[i]'(by omega) ≤ 300)) : ∀ (e i : Nat), j - i = e →
    ∃ b : Bool, (∀ k, AbsK k → ∀ (r0 : Int → Option spec_l14Clause.R) (q : Nat), e < q → spec_l14Clause.L1 (cl k) k l (j : Int) r0 q (i : Int) = bif b then some ((false, ()), ()) else r0 (((j + 1 : Nat) : Int))) ∧
      (b = true ↔ ∃ (m : Nat) (hm : m < j), i ≤ m ∧ (l[m]'(by omega)).natAbs = l[j].natAbs) := by
  intro e
  induction e with
  | zero =>
    intro i he
    refine ⟨false, fun k _ r0 q hq => ?_, ⟨fun h => (by cases h), fun ⟨m, hm, h1, _⟩ => by omega⟩⟩
    obtain ⟨q, rfl⟩ : ∃ p, q = p + 1 := ⟨q - 1, by omega⟩
    simp only [spec_l14Clause.L1, spec_l14Clause.step1, dnlt (show j ≤ i by omega), cond_false, ws hj (maxLen_eq ▸ hl)]
  | succ e ih =>
    intro i he
    have hi : i < j := by omega
    have hil : i < l.length := by omega
    obtain ⟨b, h1, h2⟩ := ih (i + 1) (by omega)
    have e1 := hr i (by omega)
    have e2 := hr j (Nat.le_refl _)
    have hstep : ∀ k, AbsK k → ∀ (r0 : Int → Option spec_l14Clause.R) (q : Nat), spec_l14Clause.L1 (cl k) k l (j : Int) r0 (q + 1) (i : Int) = bif ((l[i].natAbs : Int) == (l[j].natAbs : Int)) then some ((false, ()), ()) else spec_l14Clause.L1 (cl k) k l (j : Int) r0 q ((i + 1 : Nat) : Int) := by
      intro k hk r0 q
      simp only [spec_l14Clause.L1, spec_l14Clause.step1, dlt hi, cond_true, dle0, lg hil, lg hj, Option.bind_some, hk l[i], hk l[j], ws hi (by rw [maxLen_eq] at hl; omega)]
      rw [absW_eq (by omega) (by omega), absW_eq (by omega) (by omega)]
    by_cases h : l[i].natAbs = l[j].natAbs
    · refine ⟨true, fun k hk r0 q hq => ?_, ⟨fun _ => ⟨i, hi, Nat.le_refl _, h⟩, fun _ => rfl⟩⟩
      obtain ⟨q, rfl⟩ : ∃ p, q = p + 1 := ⟨q - 1, by omega⟩
      rw [hstep k hk, h]
      simp
    · refine ⟨b, fun k hk r0 q hq => ?_, h2.trans ⟨fun ⟨m, hm, h3, h4⟩ => ⟨m, hm, by omega, h4⟩, fun ⟨m, hm, h3, h4⟩ => ⟨m, hm, ?_, h4⟩⟩⟩
      · obtain ⟨q, rfl⟩ : ∃ p, q = p + 1 := ⟨q - 1, by omega⟩
        rw [hstep k hk, beq_false_of_ne (by omega), cond_false]
        exact h1 k hk r0 q (by omega)
      · rcases Nat.lt_or_ge i m with h5 | h5
        · exact h5
        · have : m = i := by omega
          subst this
          exact absurd h4 h

theorem l14Clause_ans (vars : Int) (hv : 0 ≤ vars) (hv2 : vars ≤ 300) (l : List Int) (hl : l.length ≤ 1048576) : ∃ b : Bool, Ans 95 s_spec_l14Clause (vars, l, ()) ((b, ()), ()) ∧ (b = true ↔ ClauseOk vars l) := by
  have key : ∀ (d j : Nat), l.length - j = d → (∀ i (hi : i < j) (hil : i < l.length), -vars ≤ l[i] ∧ l[i] ≤ vars) →
      ∃ b : Bool, (Ev fun k => ∀ q, d < q → spec_l14Clause.L0 (cl k) k vars l q (j : Int) = some ((b, ()), ())) ∧ (b = true ↔ l.length ≤ 12 ∧ ∀ i, j ≤ i → okAt vars l i) := by
    intro d
    induction d with
    | zero =>
      intro j hd _
      refine ⟨decide ((l.length : Int) ≤ 12), .all fun k q hq => ?_, ?_⟩
      · obtain ⟨q, rfl⟩ : ∃ p, q = p + 1 := ⟨q - 1, by omega⟩
        simp only [spec_l14Clause.L0, spec_l14Clause.step0, dnlt (show l.length ≤ j by omega), cond_false]
      · rw [decide_eq_true_iff]
        exact ⟨fun h => ⟨by omega, fun i hi hil => by omega⟩, fun h => by omega⟩
    | succ d ih =>
      intro j hd hpre
      have hj : j < l.length := by omega
      have w1 : IntKind.i64.wrap (0 - vars) = -vars := by rw [w64 (by omega) (by omega)]; omega
      by_cases hin : -vars ≤ l[j] ∧ l[j] ≤ vars
      · by_cases h0 : l[j] = 0
        · refine ⟨false, l1In_ev.mono fun k hk q hq => ?_, ⟨fun h => (by cases h), fun h => ((h.2 j (Nat.le_refl _) hj).1 h0).elim⟩⟩
          obtain ⟨q, rfl⟩ : ∃ p, q = p + 1 := ⟨q - 1, by omega⟩
          simp only [spec_l14Clause.L0, spec_l14Clause.step0, dlt hj, cond_true, dle0, lg hj, Option.bind_some, hk l[j] _ vars, w1]
          rw [decide_eq_true hin.1, decide_eq_true hin.2, h0]
          rfl
        · have hd' : l.length - (j + 1) = d := by omega
          have nxt : ∀ i (hi : i < j + 1) (hil : i < l.length), -vars ≤ l[i] ∧ l[i] ≤ vars := fun i hi hil => by
            rcases Nat.lt_or_ge i j with h | h
            · exact hpre i h hil
            · have : i = j := by omega
              subst this; exact hin
          obtain ⟨b1, hb1, hb2⟩ := spec_inner l j hj (by rw [maxLen_eq]; omega) (fun i hi => by
            rcases Nat.lt_or_ge i j with h | h
            · have := hpre i h (by omega); omega
            · have : i = j := by omega
              subst this; omega) j 0 rfl
          have hstep : ∀ k, InK k → AbsK k → j < k → ∀ q, spec_l14Clause.L0 (cl k) k vars l (q + 1) (j : Int) = bif b1 then some ((false, ()), ()) else spec_l14Clause.L0 (cl k) k vars l q ((j + 1 : Nat) : Int) := by
            intro k hk hk2 hk3 q
            simp only [spec_l14Clause.L0, spec_l14Clause.step0, dlt hj, cond_true, dle0, lg hj, Option.bind_some, hk l[j] _ vars, w1]
            rw [decide_eq_true hin.1, decide_eq_true hin.2, beq_false_of_ne h0]
            exact hb1 k hk2 _ k hk3
          cases b1 with
          | true =>
            refine ⟨false, (l1In_ev.and (l14Abs_ev.and (Ev.ge (j + 1)))).mono fun k ⟨hk, hk2, hk3⟩ q hq => ?_, ⟨fun h => (by cases h), fun h => ?_⟩⟩
            · obtain ⟨q, rfl⟩ : ∃ p, q = p + 1 := ⟨q - 1, by omega⟩
              rw [hstep k hk hk2 hk3]; rfl
            · obtain ⟨m, hm, _, h4⟩ := hb2.1 rfl
              exact ((h.2 j (Nat.le_refl _) hj).2.2 m hm h4).elim
          | false =>
            obtain ⟨b, hb3, hb4⟩ := ih (j + 1) hd' nxt
            refine ⟨b, (hb3.and (l1In_ev.and (l14Abs_ev.and (Ev.ge (j + 1))))).mono fun k ⟨h3, hk, hk2, hk3⟩ q hq => ?_, hb4.trans ⟨fun ⟨h5, h6⟩ => ⟨h5, fun i hi => ?_⟩, fun ⟨h5, h6⟩ => ⟨h5, fun i hi => h6 i (by omega)⟩⟩⟩
            · obtain ⟨q, rfl⟩ : ∃ p, q = p + 1 := ⟨q - 1, by omega⟩
              rw [hstep k hk hk2 hk3]
              exact h3 q (by omega)
            · rcases Nat.lt_or_ge j i with h | h
              · exact h6 i h
              · have : i = j := by omega
                subst this
                refine fun hj => ⟨h0, hin, fun m hm h7 => ?_⟩
                have := hb2.2 ⟨m, hm, Nat.zero_le _, h7⟩
                cases this
      · refine ⟨false, l1In_ev.mono fun k hk q hq => ?_, ⟨fun h => (by cases h), fun h => (hin (h.2 j (Nat.le_refl _) hj).2.1).elim⟩⟩
        obtain ⟨q, rfl⟩ : ∃ p, q = p + 1 := ⟨q - 1, by omega⟩
        simp only [spec_l14Clause.L0, spec_l14Clause.step0, dlt hj, cond_true, dle0, lg hj, Option.bind_some, hk l[j] _ vars, w1]
        have : (decide (-vars ≤ l[j]) && decide (l[j] ≤ vars)) = false := by
          rw [Bool.and_eq_false_iff, decide_eq_false_iff_not, decide_eq_false_iff_not]
          by_cases h : -vars ≤ l[j]
          · exact .inr fun h2 => hin ⟨h, h2⟩
          · exact .inl h
        rw [this]
        rfl
  obtain ⟨b, h1, h2⟩ := key l.length 0 rfl (fun i hi => by omega)
  refine ⟨b, Ans.of (fun k => spec_l14Clause.F_eq (cl k) k vars l) ((h1.and (Ev.ge (l.length + 1))).mono fun k ⟨h3, hk⟩ => ?_), h2.trans ⟨fun h => ⟨h.1, fun j => h.2 j (Nat.zero_le _)⟩, fun h => ⟨h.1, fun j _ => h.2 j⟩⟩⟩
  exact h3 k (by omega)

theorem impl_inner (l : List Int) (j : Nat) (hj : j < l.length) (hl : l.length ≤ maxLen) (hr : ∀ i (hi : i ≤ j), (-300 ≤ l[i]'(by omega) ∧ l[i]'(by omega) ≤ 300)) : ∀ (e i : Nat), j - i = e →
    ∃ b : Bool, (∀ k, VarK k → ∀ (r0 : Int → Option impl_clauseRight.R) (q : Nat), e < q → impl_clauseRight.L1 (cl k) k l (j : Int) l[j] r0 q (i : Int) = bif b then some ((false, ()), ()) else r0 (((j + 1 : Nat) : Int))) ∧
      (b = true ↔ ∃ (m : Nat) (hm : m < j), i ≤ m ∧ (l[m]'(by omega)).natAbs = l[j].natAbs) := by
  have hlen : (List.take ((j : Int).toNat - 0) (List.drop 0 l)).length = j := by
    rw [Int.toNat_natCast, List.drop_zero, List.length_take]; omega
  intro e
  induction e with
  | zero =>
    intro i he
    refine ⟨false, fun k _ r0 q hq => ?_, ⟨fun h => (by cases h), fun ⟨m, hm, h1, _⟩ => by omega⟩⟩
    obtain ⟨q, rfl⟩ : ∃ p, q = p + 1 := ⟨q - 1, by omega⟩
    simp only [impl_clauseRight.L1, impl_clauseRight.step1]
    rw [hlen, dnlt (show j ≤ i by omega), ws hj (maxLen_eq ▸ hl)]; rfl
  | succ e ih =>
    intro i he
    have hi : i < j := by omega
    have hil : i < l.length := by omega
    obtain ⟨b, h1, h2⟩ := ih (i + 1) (by omega)
    have e1 := hr i (by omega)
    have e2 := hr j (Nat.le_refl _)
    have hget : lget (List.take ((j : Int).toNat - 0) (List.drop 0 l)) (Int.toNat (i : Int)) = some l[i] := by
      rw [lg (by rw [hlen]; exact hi)]
      simp
    have hstep : ∀ k, VarK k → ∀ (r0 : Int → Option impl_clauseRight.R) (q : Nat), impl_clauseRight.L1 (cl k) k l (j : Int) l[j] r0 (q + 1) (i : Int) = bif ((l[i].natAbs : Int) == (l[j].natAbs : Int)) then some ((false, ()), ()) else impl_clauseRight.L1 (cl k) k l (j : Int) l[j] r0 q ((i + 1 : Nat) : Int) := by
      intro k hk r0 q
      simp only [impl_clauseRight.L1, impl_clauseRight.step1]
      rw [hlen, dlt hi, cond_true, dle0, cond_true, hget]
      simp only [Option.bind_some, hk l[i], hk l[j], ws hi (by rw [maxLen_eq] at hl; omega)]
      rw [absV_eq (by omega) (by omega), absV_eq (by omega) (by omega)]
    by_cases h : l[i].natAbs = l[j].natAbs
    · refine ⟨true, fun k hk r0 q hq => ?_, ⟨fun _ => ⟨i, hi, Nat.le_refl _, h⟩, fun _ => rfl⟩⟩
      obtain ⟨q, rfl⟩ : ∃ p, q = p + 1 := ⟨q - 1, by omega⟩
      rw [hstep k hk, h]
      simp
    · refine ⟨b, fun k hk r0 q hq => ?_, h2.trans ⟨fun ⟨m, hm, h3, h4⟩ => ⟨m, hm, by omega, h4⟩, fun ⟨m, hm, h3, h4⟩ => ⟨m, hm, ?_, h4⟩⟩⟩
      · obtain ⟨q, rfl⟩ : ∃ p, q = p + 1 := ⟨q - 1, by omega⟩
        rw [hstep k hk, beq_false_of_ne (by omega), cond_false]
        exact h1 k hk r0 q (by omega)
      · rcases Nat.lt_or_ge i m with h5 | h5
        · exact h5
        · have : m = i := by omega
          subst this
          exact absurd h4 h

theorem clauseRight_ans (vars : Int) (hv : 0 ≤ vars) (hv2 : vars ≤ 300) (l : List Int) (hl : l.length ≤ 1048576) : ∃ b : Bool, Ans 98 s_impl_clauseRight (vars, l, ()) ((b, ()), ()) ∧ (b = true ↔ ClauseOk vars l) := by
  by_cases h12 : l.length ≤ 12
  case neg =>
    refine ⟨false, Ans.of (fun k => impl_clauseRight.F_eq (cl k) k vars l) (.all fun k => ?_), ⟨fun h => (by cases h), fun h => absurd h.1 h12⟩⟩
    unfold impl_clauseRight.F impl_clauseRight.Fm
    rw [decide_eq_true (by omega)]; rfl
  have key : ∀ (d j : Nat), l.length - j = d → (∀ i (hi : i < j) (hil : i < l.length), -vars ≤ l[i] ∧ l[i] ≤ vars) →
      ∃ b : Bool, (Ev fun k => ∀ q, d < q → impl_clauseRight.L0 (cl k) k vars l q (j : Int) = some ((b, ()), ())) ∧ (b = true ↔ ∀ i, j ≤ i → okAt vars l i) := by
    intro d
    induction d with
    | zero =>
      intro j hd _
      refine ⟨true, .all fun k q hq => ?_, ⟨fun h i hi hil => by omega, fun _ => rfl⟩⟩
      obtain ⟨q, rfl⟩ : ∃ p, q = p + 1 := ⟨q - 1, by omega⟩
      simp only [impl_clauseRight.L0, impl_clauseRight.step0, dnlt (show l.length ≤ j by omega), cond_false]
    | succ d ih =>
      intro j hd hpre
      have hj : j < l.length := by omega
      have w1 : IntKind.i64.wrap (0 - vars) = -vars := by rw [w64 (by omega) (by omega)]; omega
      have no : ∀ (P : Prop), ¬okAt vars l j → ((false = true) ↔ ∀ i, j ≤ i → okAt vars l i) := fun _ h => ⟨fun h => (by cases h), fun h2 => absurd (h2 j (Nat.le_refl _)) h⟩
      by_cases h0 : l[j] = 0
      · refine ⟨false, .all fun k q hq => ?_, no True fun h => (h hj).1 h0⟩
        obtain ⟨q, rfl⟩ : ∃ p, q = p + 1 := ⟨q - 1, by omega⟩
        simp only [impl_clauseRight.L0, impl_clauseRight.step0, dlt hj, cond_true, dle0, lg hj, Option.bind_some, h0]
        rfl
      by_cases hhi : l[j] > vars
      · refine ⟨false, .all fun k q hq => ?_, no True fun h => by have := (h hj).2.1.2; omega⟩
        obtain ⟨q, rfl⟩ : ∃ p, q = p + 1 := ⟨q - 1, by omega⟩
        simp only [impl_clauseRight.L0, impl_clauseRight.step0, dlt hj, cond_true, dle0, lg hj, Option.bind_some]
        rw [beq_false_of_ne h0, decide_eq_true hhi]
        rfl
      by_cases hlo : l[j] < -vars
      · refine ⟨false, .all fun k q hq => ?_, no True fun h => by have := (h hj).2.1.1; omega⟩
        obtain ⟨q, rfl⟩ : ∃ p, q = p + 1 := ⟨q - 1, by omega⟩
        simp only [impl_clauseRight.L0, impl_clauseRight.step0, dlt hj, cond_true, dle0, lg hj, Option.bind_some, w1]
        rw [beq_false_of_ne h0, decide_eq_false hhi, decide_eq_true hlo]
        rfl
      have hin : -vars ≤ l[j] ∧ l[j] ≤ vars := ⟨by omega, by omega⟩
      have hd' : l.length - (j + 1) = d := by omega
      have nxt : ∀ i (hi : i < j + 1) (hil : i < l.length), -vars ≤ l[i] ∧ l[i] ≤ vars := fun i hi hil => by
        rcases Nat.lt_or_ge i j with h | h
        · exact hpre i h hil
        · have : i = j := by omega
          subst this; exact hin
      obtain ⟨b1, hb1, hb2⟩ := impl_inner l j hj (by rw [maxLen_eq]; omega) (fun i hi => by
        rcases Nat.lt_or_ge i j with h | h
        · have := hpre i h (by omega); omega
        · have : i = j := by omega
          subst this; omega) j 0 rfl
      have hstep : ∀ k, VarK k → j < k → ∀ q, impl_clauseRight.L0 (cl k) k vars l (q + 1) (j : Int) = bif b1 then some ((false, ()), ()) else impl_clauseRight.L0 (cl k) k vars l q ((j + 1 : Nat) : Int) := by
        intro k hk hk3 q
        simp only [impl_clauseRight.L0, impl_clauseRight.step0, dlt hj, cond_true, dle0, lg hj, Option.bind_some, w1]
        rw [beq_false_of_ne h0, decide_eq_false hhi, decide_eq_false hlo, cond_false, cond_false, cond_false, decide_eq_true (Nat.zero_le _), Int.toNat_natCast, decide_eq_true (show j ≤ l.length by omega)]
        exact hb1 k hk _ k hk3
      cases b1 with
      | true =>
        refine ⟨false, (variableOf_ev.and (Ev.ge (j + 1))).mono fun k ⟨hk, hk3⟩ q hq => ?_, no True fun h => ?_⟩
        · obtain ⟨q, rfl⟩ : ∃ p, q = p + 1 := ⟨q - 1, by omega⟩
          rw [hstep k hk hk3]; rfl
        · obtain ⟨m, hm, _, h4⟩ := hb2.1 rfl
          exact ((h hj).2.2 m hm h4).elim
      | false =>
        obtain ⟨b, hb3, hb4⟩ := ih (j + 1) hd' nxt
        refine ⟨b, (hb3.and (variableOf_ev.and (Ev.ge (j + 1)))).mono fun k ⟨h3, hk, hk3⟩ q hq => ?_, hb4.trans ⟨fun h6 i hi => ?_, fun h6 i hi => h6 i (by omega)⟩⟩
        · obtain ⟨q, rfl⟩ : ∃ p, q = p + 1 := ⟨q - 1, by omega⟩
          rw [hstep k hk hk3]
          exact h3 q (by omega)
        · rcases Nat.lt_or_ge j i with h | h
          · exact h6 i h
          · have : i = j := by omega
            subst this
            refine fun hj => ⟨h0, hin, fun m hm h7 => ?_⟩
            have := hb2.2 ⟨m, hm, Nat.zero_le _, h7⟩
            cases this
  obtain ⟨b, h1, h2⟩ := key l.length 0 rfl (fun i hi => by omega)
  refine ⟨b, Ans.of (fun k => impl_clauseRight.F_eq (cl k) k vars l) ((h1.and (Ev.ge (l.length + 1))).mono fun k ⟨h3, hk⟩ => ?_), h2.trans ⟨fun h => ⟨h12, fun j => h j (Nat.zero_le _)⟩, fun h j _ => h.2 j⟩⟩
  unfold impl_clauseRight.F impl_clauseRight.Fm
  rw [decide_eq_false (by omega)]
  exact h3 k (by omega)

end Go.Proofs.Ytcmgjdmhemfecaa.Pf
