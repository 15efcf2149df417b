/- What clauses use, and clauses that are right: program and reference. No condition. -/
import Derived.Test.YtcmgjdmhemfecaaPfB
namespace Go.Proofs.Ytcmgjdmhemfecaa.Pf
open Go Go.Pv

/-! ### Rising lists -/
def Rise (u : List Int) : Prop := u.Pairwise (· < ·)
theorem rise_eq : ∀ {u v : List Int}, Rise u → Rise v → (∀ x, x ∈ u ↔ x ∈ v) → u = v
  | [], [], _, _, _ => rfl
  | [], b :: v, _, _, h => by have := (h b).2 List.mem_cons_self; cases this
  | a :: u, [], _, _, h => by have := (h a).1 List.mem_cons_self; cases this
  | a :: u, b :: v, h1, h2, h => by
    have h1' := List.pairwise_cons.1 h1
    have h2' := List.pairwise_cons.1 h2
    have e : a = b := by
      rcases List.mem_cons.1 ((h a).1 List.mem_cons_self) with e | e
      · exact e
      · rcases List.mem_cons.1 ((h b).2 List.mem_cons_self) with e2 | e2
        · exact e2.symm
        · have := h1'.1 b e2
          have := h2'.1 a e
          omega
    subst e
    congr 1
    refine rise_eq h1'.2 h2'.2 fun x => ⟨fun hx => ?_, fun hx => ?_⟩
    · rcases List.mem_cons.1 ((h x).1 (List.mem_cons_of_mem _ hx)) with e | e
      · have := h1'.1 x hx; omega
      · exact e
    · rcases List.mem_cons.1 ((h x).2 (List.mem_cons_of_mem _ hx)) with e | e
      · have := h2'.1 x hx; omega
      · exact e

/-- A number put in its place. -/
def insL (n : Int) : List Int → List Int
  | [] => [n]
  | x :: l => if n < x then n :: x :: l else x :: insL n l
theorem insL_mem {n x : Int} : ∀ {l : List Int}, x ∈ insL n l ↔ x = n ∨ x ∈ l
  | [] => by simp [insL]
  | y :: l => by
    simp only [insL]
    split
    · simp
    · simp only [List.mem_cons, insL_mem (l := l)]
      constructor
      · rintro (h | h | h)
        · exact .inr (.inl h)
        · exact .inl h
        · exact .inr (.inr h)
      · rintro (h | h | h)
        · exact .inr (.inl h)
        · exact .inl h
        · exact .inr (.inr h)
theorem insL_rise {n : Int} : ∀ {l : List Int}, Rise l → n ∉ l → Rise (insL n l)
  | [], _, _ => List.pairwise_singleton _ _
  | x :: l, h, hn => by
    have h' := List.pairwise_cons.1 h
    simp only [insL]
    split
    · rename_i hx
      refine List.pairwise_cons.2 ⟨fun y hy => ?_, h⟩
      rcases List.mem_cons.1 hy with rfl | hy
      · exact hx
      · have := h'.1 y hy; omega
    · rename_i hx
      refine List.pairwise_cons.2 ⟨fun y hy => ?_, insL_rise h'.2 fun e => hn (List.mem_cons_of_mem _ e)⟩
      rcases insL_mem.1 hy with rfl | hy
      · have : y ≠ x := fun e => hn (e ▸ List.mem_cons_self)
        omega
      · exact h'.1 y hy
theorem insL_len (n : Int) : ∀ l : List Int, (insL n l).length = l.length + 1
  | [] => rfl
  | x :: l => by
    simp only [insL]
    split
    · simp
    · simp [insL_len n l]

theorem l2In_ans (u : List Int) (n : Int) (hu : u.length ≤ maxLen) : Ans 137 s_spec_l2In (u, n, ()) ((decide (n ∈ u), ()), ()) := by
  refine Ans.of (fun k => spec_l2In.F_eq (cl k) k u n) ?_
  have key : ∀ (d k q j : Nat), u.length - j = d → d < q → spec_l2In.L0 (cl k) k u n q (j : Int) = some ((decide (n ∈ u.drop j), ()), ()) := by
    intro d
    induction d with
    | zero =>
      intro k q j hd hq
      obtain ⟨q, rfl⟩ : ∃ m, q = m + 1 := ⟨q - 1, by omega⟩
      simp only [spec_l2In.L0, spec_l2In.step0, dnlt (show u.length ≤ j by omega), cond_false]
      rw [List.drop_of_length_le (by omega)]
      simp
    | succ d ih =>
      intro k q j hd hq
      obtain ⟨q, rfl⟩ : ∃ m, q = m + 1 := ⟨q - 1, by omega⟩
      have hj : j < u.length := by omega
      simp only [spec_l2In.L0, spec_l2In.step0, dlt hj, cond_true, dle0, lg hj, Option.bind_some, ws hj (maxLen_eq ▸ hu)]
      rw [List.drop_eq_getElem_cons hj]
      by_cases h : u[j] = n
      · simp [h]
      · rw [beq_false_of_ne h, cond_false, ih k q (j + 1) (by omega) (by omega)]
        have : (n ∈ u[j] :: u.drop (j + 1)) ↔ n ∈ u.drop (j + 1) := by
          simp only [List.mem_cons, or_iff_right_iff_imp]
          exact fun e => absurd e.symm h
        simp only [this]
  refine (Ev.ge (u.length + 1)).mono fun k hk => ?_
  exact key u.length k k 0 rfl (by omega)

theorem ap8 {n : Nat} (h : n ≤ 10000000) : decide ((n + 1) * ti2.bytes ≤ (140737488355328 : Nat)) = true := decide_eq_true (by show (n + 1) * 8 ≤ _; omega)

/-- What the reference makes of a rising list and a number more. -/
def withL (u : List Int) (n : Int) : List Int := if n ∈ u then u else insL n u
theorem withL_mem {u : List Int} {n x : Int} : x ∈ withL u n ↔ x = n ∨ x ∈ u := by
  unfold withL
  split
  · rename_i h
    exact ⟨.inr, fun e => e.elim (fun e => e ▸ h) id⟩
  · exact insL_mem
theorem withL_rise {u : List Int} {n : Int} (h : Rise u) : Rise (withL u n) := by
  unfold withL
  split
  · exact h
  · rename_i hn
    exact insL_rise h hn
theorem withL_len (u : List Int) (n : Int) : (withL u n).length ≤ u.length + 1 := by
  unfold withL
  split
  · omega
  · rw [insL_len]; exact Nat.le_refl _

theorem l2With_ans (u : List Int) (n : Int) (hu : u.length ≤ 1000000) : Ans 149 s_spec_l2With (u, n, ()) ((withL u n, ()), ()) := by
  refine Ans.of (fun k => spec_l2With.F_eq (cl k) k u n) ?_
  have hu' : u.length ≤ 9223372036854775807 := by omega
  have keyT : ∀ (d k q j : Nat) (out : List Int), u.length - j = d → d < q → out.length ≤ j + 1 → spec_l2With.L0 (cl k) k u n q true (j : Int) out = some ((out ++ u.drop j, ()), ()) := by
    intro d
    induction d with
    | zero =>
      intro k q j out hd hq ho
      obtain ⟨q, rfl⟩ : ∃ m, q = m + 1 := ⟨q - 1, by omega⟩
      simp only [spec_l2With.L0, spec_l2With.step0, dnlt (show u.length ≤ j by omega), cond_false, Bool.not_true]
      rw [List.drop_of_length_le (by omega), List.append_nil]
    | succ d ih =>
      intro k q j out hd hq ho
      obtain ⟨q, rfl⟩ : ∃ m, q = m + 1 := ⟨q - 1, by omega⟩
      have hj : j < u.length := by omega
      simp only [spec_l2With.L0, spec_l2With.step0, dlt hj, cond_true, dle0, lg hj, Option.bind_some, ws hj hu', Bool.not_true, cond_false, List.length_cons, List.length_nil, Nat.zero_add]
      rw [ap8 (by omega), cond_true, ih k q (j + 1) (out ++ [u[j]]) (by omega) (by omega) (by simp; omega), List.drop_eq_getElem_cons hj, List.append_assoc]
      rfl
  have keyF : ∀ (d k q j : Nat) (out : List Int), u.length - j = d → d < q → j ≤ u.length → out.length ≤ j → spec_l2With.L0 (cl k) k u n q false (j : Int) out = some ((out ++ insL n (u.drop j), ()), ()) := by
    intro d
    induction d with
    | zero =>
      intro k q j out hd hq hju ho
      obtain ⟨q, rfl⟩ : ∃ m, q = m + 1 := ⟨q - 1, by omega⟩
      simp only [spec_l2With.L0, spec_l2With.step0, dnlt (show u.length ≤ j by omega), cond_false, Bool.not_false, cond_true, List.length_cons, List.length_nil, Nat.zero_add]
      rw [ap8 (by omega), cond_true, List.drop_of_length_le (by omega)]; rfl
    | succ d ih =>
      intro k q j out hd hq hju ho
      obtain ⟨q, rfl⟩ : ∃ m, q = m + 1 := ⟨q - 1, by omega⟩
      have hj : j < u.length := by omega
      simp only [spec_l2With.L0, spec_l2With.step0, dlt hj, cond_true, dle0, lg hj, Option.bind_some, ws hj hu', Bool.not_false, List.length_cons, List.length_nil, Nat.zero_add, List.length_append]
      rw [List.drop_eq_getElem_cons hj]
      simp only [insL]
      by_cases h : n < u[j]
      · rw [decide_eq_true h, cond_true, ap8 (by omega), cond_true, ap8 (by omega), cond_true, if_pos h, keyT d k q (j + 1) _ (by omega) (by omega) (by simp; omega)]
        simp
      · rw [decide_eq_false h, cond_false, ap8 (by omega), cond_true, if_neg h, ih k q (j + 1) (out ++ [u[j]]) (by omega) (by omega) (by omega) (by simp; omega)]
        simp
  refine ((l2In_ans u n (by rw [maxLen_eq]; omega)).and (Ev.ge (u.length + 1))).mono fun k ⟨h1, hk⟩ => ?_
  simp only [spec_l2With.F, spec_l2With.Fm, h1, Option.bind_some, withL]
  by_cases h : n ∈ u
  · rw [decide_eq_true h, cond_true, if_pos h, decide_eq_true (by show (0 + u.length) * 8 ≤ _; omega)]; rfl
  · rw [decide_eq_false h, cond_false, if_neg h]
    exact keyF u.length k k 0 [] rfl (by omega) (by omega) (by simp)

/-! ### What clauses use -/
def marks : List Bool → List Int → List Bool
  | acc, [] => acc
  | acc, n :: l => marks (acc.set n.natAbs true) l
theorem marks_len : ∀ (l : List Int) (acc : List Bool), (marks acc l).length = acc.length
  | [], _ => rfl
  | n :: l, acc => by simp only [marks, marks_len l, List.length_set]
theorem marks_app : ∀ (l l' : List Int) (acc : List Bool), marks acc (l ++ l') = marks (marks acc l) l'
  | [], _, _ => rfl
  | n :: l, l', acc => by simp only [List.cons_append, marks, marks_app l l']
theorem marks_get : ∀ (l : List Int) (acc : List Bool) (v : Nat), v < acc.length → (((marks acc l)[v]? = some true) ↔ acc[v]? = some true ∨ ∃ n ∈ l, n.natAbs = v)
  | [], acc, v, _ => by simp [marks]
  | n :: l, acc, v, hv => by
    simp only [marks]
    rw [marks_get l _ v (by rw [List.length_set]; exact hv)]
    rw [List.getElem?_set]
    by_cases h : n.natAbs = v
    · rw [if_pos h, if_pos (by rw [h]; exact hv)]
      simp [h]
    · rw [if_neg h]
      simp [h]
def sel (acc : List Bool) : Nat → Nat → List Int
  | _, 0 => []
  | j, d + 1 => if acc[j]? = some true then (j : Int) :: sel acc (j + 1) d else sel acc (j + 1) d
theorem sel_mem {acc : List Bool} {x : Int} : ∀ {d j : Nat}, x ∈ sel acc j d ↔ ∃ m : Nat, j ≤ m ∧ m < j + d ∧ acc[m]? = some true ∧ x = (m : Int)
  | 0, j => by
    simp only [sel, List.not_mem_nil, false_iff]
    rintro ⟨m, h1, h2, _⟩
    omega
  | d + 1, j => by
    have ih := sel_mem (acc := acc) (x := x) (d := d) (j := j + 1)
    simp only [sel]
    split
    · rename_i h
      rw [List.mem_cons, ih]
      constructor
      · rintro (rfl | ⟨m, h1, h2, h3⟩)
        · exact ⟨j, Nat.le_refl _, by omega, h, rfl⟩
        · exact ⟨m, by omega, by omega, h3⟩
      · rintro ⟨m, h1, h2, h3, h4⟩
        rcases Nat.lt_or_ge j m with h5 | h5
        · exact .inr ⟨m, h5, by omega, h3, h4⟩
        · have : m = j := by omega
          subst this; exact .inl h4
    · rename_i h
      rw [ih]
      constructor
      · rintro ⟨m, h1, h2, h3⟩
        exact ⟨m, by omega, by omega, h3⟩
      · rintro ⟨m, h1, h2, h3, h4⟩
        refine ⟨m, ?_, by omega, h3, h4⟩
        rcases Nat.lt_or_ge j m with h5 | h5
        · exact h5
        · have : m = j := by omega
          subst this; exact absurd h3 h
theorem sel_rise (acc : List Bool) : ∀ (d j : Nat), Rise (sel acc j d)
  | 0, _ => List.Pairwise.nil
  | d + 1, j => by
    simp only [sel]
    split
    · refine List.pairwise_cons.2 ⟨fun x hx => ?_, sel_rise acc d (j + 1)⟩
      obtain ⟨m, h1, _, _, rfl⟩ := sel_mem.1 hx
      omega
    · exact sel_rise acc d (j + 1)
theorem sel_len (acc : List Bool) : ∀ (d j : Nat), (sel acc j d).length ≤ d
  | 0, _ => Nat.le_refl _
  | d + 1, j => by
    simp only [sel]
    have := sel_len acc d (j + 1)
    split
    · simp only [List.length_cons]; omega
    · omega

/-- The variables of clauses, rising. -/
def usedL (c : List (List Int)) : List Int := sel (marks (List.replicate 301 false) c.flatten) 0 301
def Range (c : List (List Int)) : Prop := ∀ l ∈ c, l.length ≤ 12 ∧ ∀ n ∈ l, n ≠ 0 ∧ n.natAbs ≤ 300
theorem usedL_mem {c : List (List Int)} (h : Range c) {x : Int} : x ∈ usedL c ↔ ∃ l ∈ c, ∃ n ∈ l, (n.natAbs : Int) = x := by
  unfold usedL
  rw [sel_mem]
  constructor
  · rintro ⟨m, _, h2, h3, rfl⟩
    rcases (marks_get _ _ m (by rw [List.length_replicate]; omega)).1 h3 with h4 | ⟨n, h4, h5⟩
    · rw [List.getElem?_replicate] at h4
      split at h4 <;> cases h4
    · obtain ⟨l, hl, hn⟩ := List.mem_flatten.1 h4
      exact ⟨l, hl, n, hn, by omega⟩
  · rintro ⟨l, hl, n, hn, rfl⟩
    have h1 := ((h l hl).2 n hn).2
    exact ⟨n.natAbs, Nat.zero_le _, by omega, (marks_get _ _ _ (by rw [List.length_replicate]; omega)).2 (.inr ⟨n, List.mem_flatten.2 ⟨l, hl, hn⟩, rfl⟩), rfl⟩
theorem usedL_rise (c : List (List Int)) : Rise (usedL c) := sel_rise _ _ _
theorem usedL_len (c : List (List Int)) : (usedL c).length ≤ 301 := sel_len _ _ _
theorem usedL_range {c : List (List Int)} (h : Range c) {x : Int} (hx : x ∈ usedL c) : 1 ≤ x ∧ x ≤ 300 := by
  obtain ⟨l, hl, n, hn, rfl⟩ := (usedL_mem h).1 hx
  have := (h l hl).2 n hn
  omega

theorem usedBy_ans (v0 : Int) (c : List (List Int)) (hc : c.length ≤ 1048576) (h : Range c) : Ans 99 s_impl_usedBy ((v0, c, ()), ()) ((usedL c, ()), ()) := by
  refine Ans.of (fun k => impl_usedBy.F_eq (cl k) k (v0, c, ())) ?_
  have key2 : ∀ (acc : List Bool), acc.length = 301 → ∀ (d k q j : Nat) (out : List Int), 301 - j = d → d < q → j ≤ 301 → out.length ≤ j → impl_usedBy.L2 (cl k) k acc q (j : Int) out = some ((out ++ sel acc j d, ()), ()) := by
    intro acc hacc d
    induction d with
    | zero =>
      intro k q j out hd hq hj ho
      obtain ⟨q, rfl⟩ : ∃ m, q = m + 1 := ⟨q - 1, by omega⟩
      simp only [impl_usedBy.L2, impl_usedBy.step2]
      rw [decide_eq_false (by omega), cond_false, sel, List.append_nil]
    | succ d ih =>
      intro k q j out hd hq hj ho
      obtain ⟨q, rfl⟩ : ∃ m, q = m + 1 := ⟨q - 1, by omega⟩
      have hj' : j < acc.length := by omega
      simp only [impl_usedBy.L2, impl_usedBy.step2]
      rw [decide_eq_true (by omega), cond_true, dle0, cond_true, lg hj']
      simp only [Option.bind_some, ws hj' (by omega), List.length_cons, List.length_nil, Nat.zero_add]
      simp only [sel, List.getElem?_eq_getElem hj', Option.some.injEq]
      cases hb : acc[j] with
      | true =>
        rw [cond_true, ap8 (by omega), cond_true, ih k q (j + 1) _ (by omega) (by omega) (by omega) (by simp; omega), if_pos rfl]
        simp
      | false =>
        rw [cond_false, ih k q (j + 1) _ (by omega) (by omega) (by omega) (by omega), if_neg (by simp)]
  have key1 : ∀ (y : List Int), y.length ≤ 12 → (∀ n ∈ y, n ≠ 0 ∧ n.natAbs ≤ 300) → ∀ (k : Nat), VarK k → ∀ (j : Nat), j < c.length → ∀ (r0 : Int → List Bool → Option impl_usedBy.R) (d q i : Nat) (acc : List Bool), acc.length = 301 → y.length - i = d → d < q →
      impl_usedBy.L1 (cl k) k (j : Int) y r0 q (i : Int) acc = r0 ((j + 1 : Nat) : Int) (marks acc (y.drop i)) := by
    intro y hy hn k hk j hj r0 d
    induction d with
    | zero =>
      intro q i acc hacc hd hq
      obtain ⟨q, rfl⟩ : ∃ m, q = m + 1 := ⟨q - 1, by omega⟩
      simp only [impl_usedBy.L1, impl_usedBy.step1, dnlt (show y.length ≤ i by omega), cond_false, ws hj (by omega)]
      rw [List.drop_of_length_le (by omega)]; rfl
    | succ d ih =>
      intro q i acc hacc hd hq
      obtain ⟨q, rfl⟩ : ∃ m, q = m + 1 := ⟨q - 1, by omega⟩
      have hi : i < y.length := by omega
      have hni := hn y[i] (List.getElem_mem hi)
      have hv : absV y[i] = (y[i].natAbs : Int) := absV_eq (by omega) (by omega)
      have hacc' : y[i].natAbs < acc.length := by omega
      simp only [impl_usedBy.L1, impl_usedBy.step1, dlt hi, cond_true, dle0, lgn hi, Option.bind_some, hk y[i], hv, ws hi (show y.length ≤ 9223372036854775807 by omega), lgn hacc', Int.toNat_natCast, decide_eq_true hacc', Bool.and_self]
      rw [ih q (i + 1) _ (by rw [List.length_set]; exact hacc) (by omega) (by omega), List.drop_eq_getElem_cons hi]
      rfl
  have key0 : ∀ (k : Nat), VarK k → 302 ≤ k → ∀ (d q j : Nat) (acc : List Bool), acc.length = 301 → c.length - j = d → d < q → impl_usedBy.L0 (cl k) k (v0, c, ()) q (j : Int) acc = some ((sel (marks acc (c.drop j).flatten) 0 301, ()), ()) := by
    intro k hk hk2 d
    induction d with
    | zero =>
      intro q j acc hacc hd hq
      obtain ⟨q, rfl⟩ : ∃ m, q = m + 1 := ⟨q - 1, by omega⟩
      simp only [impl_usedBy.L0, impl_usedBy.step0, dnlt (show c.length ≤ j by omega), cond_false]
      rw [List.drop_of_length_le (by omega)]
      exact key2 acc hacc 301 k k 0 [] rfl (by omega) (by omega) (by simp)
    | succ d ih =>
      intro q j acc hacc hd hq
      obtain ⟨q, rfl⟩ : ∃ m, q = m + 1 := ⟨q - 1, by omega⟩
      have hj : j < c.length := by omega
      have hr := h c[j] (List.getElem_mem hj)
      simp only [impl_usedBy.L0, impl_usedBy.step0, dlt hj, cond_true, dle0, lg hj, Option.bind_some]
      rw [show (0 : Int) = ((0 : Nat) : Int) from rfl, key1 c[j] hr.1 hr.2 k hk j hj _ c[j].length k 0 acc hacc rfl (by omega), List.drop_zero]
      rw [ih q (j + 1) _ (by rw [marks_len]; exact hacc) (by omega) (by omega), List.drop_eq_getElem_cons hj, List.flatten_cons, marks_app]
  refine (variableOf_ev.and (Ev.ge (c.length + 302))).mono fun k ⟨h1, hk⟩ => ?_
  have := key0 k h1 (by omega) c.length k 0 (List.replicate 301 false) List.length_replicate rfl (by omega)
  rw [List.drop_zero] at this
  exact this

theorem l14Used_ans (v0 : Int) (c : List (List Int)) (hc : c.length ≤ 1000) (h : Range c) : Ans 96 s_spec_l14Used ((v0, c, ()), ()) ((usedL c, ()), ()) := by
  have key1 : ∀ (j : Nat) (hj : j < c.length) (d i : Nat) (u : List Int), c[j].length - i = d → i ≤ c[j].length → u.length ≤ 12 * j + i → Rise u → ∃ u' : List Int,
      (Ev fun k => AbsK k → ∀ (r0 : Int → List Int → Option spec_l14Used.R) (q : Nat), d < q → spec_l14Used.L1 (cl k) k (v0, c, ()) (j : Int) r0 q (i : Int) u = r0 ((j + 1 : Nat) : Int) u') ∧ u'.length ≤ 12 * j + c[j].length ∧ Rise u' ∧
      ∀ x, x ∈ u' ↔ x ∈ u ∨ ∃ n ∈ c[j].drop i, (n.natAbs : Int) = x := by
    intro j hj d
    have hr := h c[j] (List.getElem_mem hj)
    induction d with
    | zero =>
      intro i u hd hi hu hris
      refine ⟨u, .all fun k hk r0 q hq => ?_, by omega, hris, fun x => ?_⟩
      · obtain ⟨q, rfl⟩ : ∃ m, q = m + 1 := ⟨q - 1, by omega⟩
        simp only [spec_l14Used.L1, spec_l14Used.step1, dle0, cond_true, lg hj, Option.bind_some, dnlt (show c[j].length ≤ i by omega), cond_false, ws hj (by omega)]
      · rw [List.drop_of_length_le (by omega)]; simp
    | succ d ih =>
      intro i u hd hi hu hris
      have hi' : i < c[j].length := by omega
      have hn := hr.2 c[j][i] (List.getElem_mem hi')
      have hv : absW c[j][i] = (c[j][i].natAbs : Int) := absW_eq (by omega) (by omega)
      have hlen := withL_len u (c[j][i].natAbs : Int)
      obtain ⟨u', h1, h2, h3, h4⟩ := ih (i + 1) (withL u (c[j][i].natAbs : Int)) (by omega) (by omega) (by omega) (withL_rise hris)
      refine ⟨u', ?_, h2, h3, fun x => ?_⟩
      · refine (h1.and (l2With_ans u (c[j][i].natAbs : Int) (by omega))).mono fun k ⟨h1, h5⟩ hk r0 q hq => ?_
        obtain ⟨q, rfl⟩ : ∃ m, q = m + 1 := ⟨q - 1, by omega⟩
        simp only [spec_l14Used.L1, spec_l14Used.step1, dle0, cond_true, lg hj, Option.bind_some, dlt hi', lg hi', hk c[j][i], hv, h5, ws hi' (by omega)]
        exact h1 hk r0 q (by omega)
      · rw [h4, withL_mem, List.drop_eq_getElem_cons hi']
        constructor
        · rintro ((e | e) | ⟨n, e, e2⟩)
          · exact .inr ⟨_, List.mem_cons_self, e.symm⟩
          · exact .inl e
          · exact .inr ⟨n, List.mem_cons_of_mem _ e, e2⟩
        · rintro (e | ⟨n, e, e2⟩)
          · exact .inl (.inr e)
          · rcases List.mem_cons.1 e with rfl | e
            · exact .inl (.inl e2.symm)
            · exact .inr ⟨n, e, e2⟩
  have key0 : ∀ (d j : Nat) (u : List Int), c.length - j = d → u.length ≤ 12 * j → Rise u → ∃ u' : List Int,
      (Ev fun k => ∀ q, d < q → spec_l14Used.L0 (cl k) k (v0, c, ()) q (j : Int) u = some ((u', ()), ())) ∧ Rise u' ∧ ∀ x, x ∈ u' ↔ x ∈ u ∨ ∃ l ∈ c.drop j, ∃ n ∈ l, (n.natAbs : Int) = x := by
    intro d
    induction d with
    | zero =>
      intro j u hd hu hris
      refine ⟨u, .all fun k q hq => ?_, hris, fun x => ?_⟩
      · obtain ⟨q, rfl⟩ : ∃ m, q = m + 1 := ⟨q - 1, by omega⟩
        simp only [spec_l14Used.L0, spec_l14Used.step0, dnlt (show c.length ≤ j by omega), cond_false]
      · rw [List.drop_of_length_le (by omega)]; simp
    | succ d ih =>
      intro j u hd hu hris
      have hj : j < c.length := by omega
      have hr := h c[j] (List.getElem_mem hj)
      obtain ⟨u1, h1, h2, h3, h4⟩ := key1 j hj c[j].length 0 u rfl (by omega) (by omega) hris
      obtain ⟨u', h5, h6, h7⟩ := ih (j + 1) u1 (by omega) (by omega) h3
      refine ⟨u', ?_, h6, fun x => ?_⟩
      · refine (h1.and (h5.and (l14Abs_ev.and (Ev.ge 13)))).mono fun k ⟨h1, h5, hk, hk2⟩ q hq => ?_
        obtain ⟨q, rfl⟩ : ∃ m, q = m + 1 := ⟨q - 1, by omega⟩
        simp only [spec_l14Used.L0, spec_l14Used.step0, dlt hj, cond_true]
        have := h1 hk (spec_l14Used.L0 (cl k) k (v0, c, ()) q) k (by omega)
        exact this.trans (h5 q (by omega))
      · rw [h7, h4, List.drop_eq_getElem_cons hj, List.drop_zero]
        constructor
        · rintro ((e | e) | ⟨l, e, e2⟩)
          · exact .inl e
          · exact .inr ⟨_, List.mem_cons_self, e⟩
          · exact .inr ⟨l, List.mem_cons_of_mem _ e, e2⟩
        · rintro (e | ⟨l, e, e2⟩)
          · exact .inl (.inl e)
          · rcases List.mem_cons.1 e with rfl | e
            · exact .inl (.inr e2)
            · exact .inr ⟨l, e, e2⟩
  obtain ⟨u', h1, h2, h3⟩ := key0 c.length 0 [] rfl (by simp) List.Pairwise.nil
  have hu : u' = usedL c := rise_eq h2 (usedL_rise c) fun x => by
    rw [h3, usedL_mem h, List.drop_zero]; simp
  subst hu
  refine Ans.of (fun k => spec_l14Used.F_eq (cl k) k (v0, c, ())) ((h1.and (Ev.ge (c.length + 1))).mono fun k ⟨h1, hk⟩ => ?_)
  exact h1 k (by omega)

/-! ### CnfOk -/
def CnfRight (c : Cnf) : Prop := (0 ≤ c.1 ∧ c.1 ≤ 300) ∧ c.2.1.length ≤ 60 ∧ (∀ l ∈ c.2.1, ClauseOk c.1 l) ∧ (usedL c.2.1).length ≤ 12
theorem CnfRight.range {c : Cnf} (h : (0 ≤ c.1 ∧ c.1 ≤ 300) ∧ ∀ l ∈ c.2.1, ClauseOk c.1 l) : Range c.2.1 := fun l hl => ⟨(h.2 l hl).1, fun n hn => by
  have := (h.2 l hl).range n hn
  omega⟩

theorem spec_CnfOk_ans (c : Cnf) (hs : Small c) : ∃ b : Bool, Ans 33 s_spec_CnfOk (c, ()) ((b, ()), ()) ∧ (b = true ↔ CnfRight c) := by
  have F := fun k => spec_CnfOk.F_eq (cl k) k c
  by_cases hv : 0 ≤ c.1 ∧ c.1 ≤ 300
  case neg =>
    refine ⟨false, Ans.of F (l1In_ev.mono fun k hk => ?_), ⟨fun h => (by cases h), fun h => absurd h.1 hv⟩⟩
    simp only [spec_CnfOk.F, spec_CnfOk.Fm, hk c.1 0 300, Option.bind_some]
    have : (decide (0 ≤ c.1) && decide (c.1 ≤ 300)) = false := by
      rw [Bool.and_eq_false_iff, decide_eq_false_iff_not, decide_eq_false_iff_not]
      by_cases h : 0 ≤ c.1
      · exact .inr fun h2 => hv ⟨h, h2⟩
      · exact .inl h
    rw [this]; rfl
  by_cases h60 : c.2.1.length ≤ 60
  case neg =>
    refine ⟨false, Ans.of F (l1In_ev.mono fun k hk => ?_), ⟨fun h => (by cases h), fun h => absurd h.2.1 h60⟩⟩
    simp only [spec_CnfOk.F, spec_CnfOk.Fm, hk c.1 0 300, Option.bind_some]
    rw [decide_eq_true hv.1, decide_eq_true hv.2, decide_eq_true (by omega)]; rfl
  have key : ∀ (d j : Nat), c.2.1.length - j = d → (∀ i (hi : i < c.2.1.length), i < j → ClauseOk c.1 c.2.1[i]) → ∃ b : Bool, (Ev fun k => ∀ q, d < q → spec_CnfOk.L0 (cl k) k c q (j : Int) = some ((b, ()), ())) ∧ (b = true ↔ (∀ l ∈ c.2.1, ClauseOk c.1 l) ∧ (usedL c.2.1).length ≤ 12) := by
    intro d
    induction d with
    | zero =>
      intro j hd hpre
      have hall : ∀ l ∈ c.2.1, ClauseOk c.1 l := fun l hl => by
        obtain ⟨i, hi, rfl⟩ := List.getElem_of_mem hl
        exact hpre i hi (by omega)
      refine ⟨decide (((usedL c.2.1).length : Int) ≤ 12), (l14Used_ans c.1 c.2.1 (by omega) (CnfRight.range ⟨hv, hall⟩)).mono fun k hk q hq => ?_, ?_⟩
      · obtain ⟨q, rfl⟩ : ∃ m, q = m + 1 := ⟨q - 1, by omega⟩
        simp only [spec_CnfOk.L0, spec_CnfOk.step0, dnlt (show c.2.1.length ≤ j by omega), cond_false, hk, Option.bind_some]
      · rw [decide_eq_true_iff]
        exact ⟨fun h => ⟨hall, by omega⟩, fun h => by omega⟩
    | succ d ih =>
      intro j hd hpre
      have hj : j < c.2.1.length := by omega
      obtain ⟨b, hb, hb2⟩ := l14Clause_ans c.1 hv.1 hv.2 c.2.1[j] (hs.2 _ (List.getElem_mem hj))
      cases b with
      | false =>
        refine ⟨false, hb.mono fun k hk q hq => ?_, ⟨fun h => (by cases h), fun h => ?_⟩⟩
        · obtain ⟨q, rfl⟩ : ∃ m, q = m + 1 := ⟨q - 1, by omega⟩
          simp only [spec_CnfOk.L0, spec_CnfOk.step0, dlt hj, cond_true, dle0, lg hj, Option.bind_some, hk, Bool.not_false]
        · have := hb2.2 (h.1 _ (List.getElem_mem hj))
          cases this
      | true =>
        have hd' : c.2.1.length - (j + 1) = d := by omega
        have w := ws hj (show c.2.1.length ≤ 9223372036854775807 by omega)
        obtain ⟨b, h1, h2⟩ := ih (j + 1) hd' fun i hi hij => by
          rcases Nat.lt_or_ge i j with h | h
          · exact hpre i hi h
          · have : i = j := Nat.le_antisymm (Nat.le_of_lt_succ hij) h
            subst this; exact hb2.1 rfl
        refine ⟨b, (hb.and h1).mono fun k ⟨hk, h1⟩ q hq => ?_, h2⟩
        obtain ⟨q, rfl⟩ : ∃ m, q = m + 1 := ⟨q - 1, (Nat.succ_pred_eq_of_pos (Nat.lt_of_le_of_lt (Nat.zero_le _) hq)).symm⟩
        simp only [spec_CnfOk.L0, spec_CnfOk.step0, dlt hj, cond_true, dle0, lg hj, Option.bind_some, hk, Bool.not_true, cond_false, w]
        exact h1 q (Nat.lt_of_succ_lt_succ hq)
  obtain ⟨b, h1, h2⟩ := key c.2.1.length 0 rfl (fun i hi h => by omega)
  refine ⟨b, Ans.of F ((l1In_ev.and (h1.and (Ev.ge (c.2.1.length + 1)))).mono fun k ⟨hk, h1, hk2⟩ => ?_), h2.trans ⟨fun h => ⟨hv, h60, h⟩, fun h => h.2.2⟩⟩
  simp only [spec_CnfOk.F, spec_CnfOk.Fm, hk c.1 0 300, Option.bind_some]
  rw [decide_eq_true hv.1, decide_eq_true hv.2, decide_eq_false (by omega)]
  exact h1 k hk2

theorem impl_CnfOk_ans (c : Cnf) (hs : Small c) : ∃ b : Bool, Ans 35 s_impl_CnfOk (c, ()) ((b, ()), ()) ∧ (b = true ↔ CnfRight c) := by
  have F := fun k => impl_CnfOk.F_eq (cl k) k c
  by_cases hv0 : 0 ≤ c.1
  case neg =>
    refine ⟨false, Ans.of F (.all fun k => ?_), ⟨fun h => (by cases h), fun h => absurd h.1.1 hv0⟩⟩
    unfold impl_CnfOk.F impl_CnfOk.Fm
    rw [decide_eq_true (by omega)]; rfl
  by_cases hv1 : c.1 ≤ 300
  case neg =>
    refine ⟨false, Ans.of F (.all fun k => ?_), ⟨fun h => (by cases h), fun h => absurd h.1.2 hv1⟩⟩
    unfold impl_CnfOk.F impl_CnfOk.Fm
    rw [decide_eq_false (by omega), decide_eq_true (by omega)]; rfl
  have hv : 0 ≤ c.1 ∧ c.1 ≤ 300 := ⟨hv0, hv1⟩
  by_cases h60 : c.2.1.length ≤ 60
  case neg =>
    refine ⟨false, Ans.of F (.all fun k => ?_), ⟨fun h => (by cases h), fun h => absurd h.2.1 h60⟩⟩
    unfold impl_CnfOk.F impl_CnfOk.Fm
    rw [decide_eq_false (by omega), decide_eq_false (by omega), decide_eq_true (by omega)]; rfl
  have key : ∀ (d j : Nat), c.2.1.length - j = d → (∀ i (hi : i < c.2.1.length), i < j → ClauseOk c.1 c.2.1[i]) → ∃ b : Bool, (Ev fun k => ∀ q, d < q → impl_CnfOk.L0 (cl k) k c q (j : Int) = some ((b, ()), ())) ∧ (b = true ↔ (∀ l ∈ c.2.1, ClauseOk c.1 l) ∧ (usedL c.2.1).length ≤ 12) := by
    intro d
    induction d with
    | zero =>
      intro j hd hpre
      have hall : ∀ l ∈ c.2.1, ClauseOk c.1 l := fun l hl => by
        obtain ⟨i, hi, rfl⟩ := List.getElem_of_mem hl
        exact hpre i hi (by omega)
      refine ⟨decide (((usedL c.2.1).length : Int) ≤ 12), (usedBy_ans c.1 c.2.1 (by omega) (CnfRight.range ⟨hv, hall⟩)).mono fun k hk q hq => ?_, ?_⟩
      · obtain ⟨q, rfl⟩ : ∃ m, q = m + 1 := ⟨q - 1, by omega⟩
        simp only [impl_CnfOk.L0, impl_CnfOk.step0, dnlt (show c.2.1.length ≤ j by omega), cond_false, hk, Option.bind_some]
      · rw [decide_eq_true_iff]
        exact ⟨fun h => ⟨hall, by omega⟩, fun h => by omega⟩
    | succ d ih =>
      intro j hd hpre
      have hj : j < c.2.1.length := by omega
      obtain ⟨b, hb, hb2⟩ := clauseRight_ans c.1 hv.1 hv.2 c.2.1[j] (hs.2 _ (List.getElem_mem hj))
      cases b with
      | false =>
        refine ⟨false, hb.mono fun k hk q hq => ?_, ⟨fun h => (by cases h), fun h => ?_⟩⟩
        · obtain ⟨q, rfl⟩ : ∃ m, q = m + 1 := ⟨q - 1, by omega⟩
          simp only [impl_CnfOk.L0, impl_CnfOk.step0, dlt hj, cond_true, dle0, lg hj, Option.bind_some, hk, Bool.not_false]
        · have := hb2.2 (h.1 _ (List.getElem_mem hj))
          cases this
      | true =>
        have hd' : c.2.1.length - (j + 1) = d := by omega
        have w := ws hj (show c.2.1.length ≤ 9223372036854775807 by omega)
        obtain ⟨b, h1, h2⟩ := ih (j + 1) hd' fun i hi hij => by
          rcases Nat.lt_or_ge i j with h | h
          · exact hpre i hi h
          · have : i = j := Nat.le_antisymm (Nat.le_of_lt_succ hij) h
            subst this; exact hb2.1 rfl
        refine ⟨b, (hb.and h1).mono fun k ⟨hk, h1⟩ q hq => ?_, h2⟩
        obtain ⟨q, rfl⟩ : ∃ m, q = m + 1 := ⟨q - 1, (Nat.succ_pred_eq_of_pos (Nat.lt_of_le_of_lt (Nat.zero_le _) hq)).symm⟩
        simp only [impl_CnfOk.L0, impl_CnfOk.step0, dlt hj, cond_true, dle0, lg hj, Option.bind_some, hk, Bool.not_true, cond_false, w]
        exact h1 q (Nat.lt_of_succ_lt_succ hq)
  obtain ⟨b, h1, h2⟩ := key c.2.1.length 0 rfl (fun i hi h => by omega)
  refine ⟨b, Ans.of F ((h1.and (Ev.ge (c.2.1.length + 1))).mono fun k ⟨h1, hk2⟩ => ?_), h2.trans ⟨fun h => ⟨hv, h60, h⟩, fun h => h.2.2⟩⟩
  unfold impl_CnfOk.F impl_CnfOk.Fm
  rw [decide_eq_false (by omega), decide_eq_false (by omega), decide_eq_false (by omega)]
  exact h1 k hk2

end Go.Proofs.Ytcmgjdmhemfecaa.Pf
