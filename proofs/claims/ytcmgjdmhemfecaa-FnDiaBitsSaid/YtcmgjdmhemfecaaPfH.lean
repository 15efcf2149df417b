/- Dias: DiaOk and CountDia. No condition. -/
import Derived.Test.YtcmgjdmhemfecaaPfG
namespace Go.Proofs.Ytcmgjdmhemfecaa.Pf
open Go Go.Pv

instance decA : DecidableEq (List Kn × Unit) := instDecidableEqProd
instance decB : DecidableEq (Int × (List Kn × Unit)) := instDecidableEqProd
instance decC : DecidableEq Dia := instDecidableEqProd
theorem cons_dec {α : Type} [DecidableEq α] (x y : α) (l r : List α) : decide (x :: l = y :: r) = (decide (x = y) && decide (l = r)) := by
  by_cases h : x = y
  · subst h; simp
  · simp [h]
theorem likeLoop (k : Nat) (d e : Dia) (hl : d.2.2.1.length ≤ 1048576) (he : d.2.2.1.length = e.2.2.1.length) : ∀ (n q j : Nat), d.2.2.1.length - j = n → n < q → spec_l13Like.L0 (cl k) k d e q (j : Int) = some ((decide (d.2.2.1.drop j = e.2.2.1.drop j), ()), ()) := by
  intro n
  induction n with
  | zero =>
    intro q j hd hq
    obtain ⟨q, rfl⟩ : ∃ p, q = p + 1 := ⟨q - 1, by omega⟩
    simp only [spec_l13Like.L0, spec_l13Like.step0, dnlt (show d.2.2.1.length ≤ j by omega), cond_false]
    rw [List.drop_of_length_le (by omega), List.drop_of_length_le (by omega), decide_eq_true rfl]
  | succ n ih =>
    intro q j hd hq
    obtain ⟨q, rfl⟩ : ∃ p, q = p + 1 := ⟨q - 1, by omega⟩
    have hj : j < d.2.2.1.length := by omega
    have hj' : j < e.2.2.1.length := by omega
    have e0 : eqV ((Ty.int IntKind.i64).pair ((Ty.int IntKind.i64).pair ((Ty.int IntKind.i64).pair Ty.unit))) d.2.2.1[j] e.2.2.1[j] = decide (d.2.2.1[j] = e.2.2.1[j]) := eqKn _ _
    simp only [spec_l13Like.L0, spec_l13Like.step0, dlt hj, cond_true, dle0, lg hj, lg hj', Option.bind_some, e0, ws hj (show d.2.2.1.length ≤ 9223372036854775807 by omega)]
    rw [List.drop_eq_getElem_cons hj, List.drop_eq_getElem_cons hj', cons_dec, ih q (j + 1) (by omega) (by omega)]
    cases decide (d.2.2.1[j] = e.2.2.1[j]) <;> rfl
theorem sameLoop (k : Nat) (d e : Dia) (hl : d.2.2.1.length ≤ 1048576) (he : d.2.2.1.length = e.2.2.1.length) : ∀ (n q j : Nat), d.2.2.1.length - j = n → n < q → impl_sameDia.L0 (cl k) k d e q (j : Int) = some ((decide (d.2.2.1.drop j = e.2.2.1.drop j), ()), ()) := by
  intro n
  induction n with
  | zero =>
    intro q j hd hq
    obtain ⟨q, rfl⟩ : ∃ p, q = p + 1 := ⟨q - 1, by omega⟩
    simp only [impl_sameDia.L0, impl_sameDia.step0, dnlt (show d.2.2.1.length ≤ j by omega), cond_false]
    rw [List.drop_of_length_le (by omega), List.drop_of_length_le (by omega), decide_eq_true rfl]
  | succ n ih =>
    intro q j hd hq
    obtain ⟨q, rfl⟩ : ∃ p, q = p + 1 := ⟨q - 1, by omega⟩
    have hj : j < d.2.2.1.length := by omega
    have hj' : j < e.2.2.1.length := by omega
    have e0 : eqV ((Ty.int IntKind.i64).pair ((Ty.int IntKind.i64).pair ((Ty.int IntKind.i64).pair Ty.unit))) d.2.2.1[j] e.2.2.1[j] = decide (d.2.2.1[j] = e.2.2.1[j]) := eqKn _ _
    simp only [impl_sameDia.L0, impl_sameDia.step0, dlt hj, cond_true, dle0, lg hj, lg hj', Option.bind_some, e0, ws hj (show d.2.2.1.length ≤ 9223372036854775807 by omega)]
    rw [List.drop_eq_getElem_cons hj, List.drop_eq_getElem_cons hj', cons_dec, ih q (j + 1) (by omega) (by omega)]
    cases decide (d.2.2.1[j] = e.2.2.1[j]) <;> rfl
theorem dia_dec (d e : Dia) : decide (d = e) = (decide (d.1 = e.1) && (decide (d.2.1 = e.2.1) && decide (d.2.2.1 = e.2.2.1))) := by
  obtain ⟨a, b, c, ⟨⟩⟩ := d
  obtain ⟨a', b', c', ⟨⟩⟩ := e
  by_cases h1 : a = a'
  · by_cases h2 : b = b'
    · by_cases h3 : c = c'
      · subst h1 h2 h3; simp
      · simp [h3]
    · simp [h2]
  · simp [h1]
theorem l13Like_ans (d e : Dia) (hl : d.2.2.1.length ≤ 1048576) : Ans 104 s_spec_l13Like (d, e, ()) ((decide (d = e), ()), ()) := by
  refine Ans.of (fun k => spec_l13Like.F_eq (cl k) k d e) ((Ev.ge (d.2.2.1.length + 1)).mono fun k hk => ?_)
  simp only [spec_l13Like.F, spec_l13Like.Fm, dia_dec]
  by_cases h1 : d.1 = e.1
  · rw [h1, bne_self_eq_false, cond_false, decide_eq_true rfl, Bool.true_and]
    by_cases h2 : d.2.1 = e.2.1
    · rw [h2, bne_self_eq_false, cond_false, decide_eq_true rfl, Bool.true_and]
      by_cases h3 : d.2.2.1.length = e.2.2.1.length
      · rw [show ((d.2.2.1.length : Int) != (e.2.2.1.length : Int)) = false by rw [h3]; exact bne_self_eq_false _, cond_false]
        exact likeLoop k d e hl h3 d.2.2.1.length k 0 rfl (by omega)
      · rw [bne_iff_ne.2 (by omega), cond_true, decide_eq_false fun h => h3 (by rw [h])]
    · rw [bne_iff_ne.2 h2, cond_true, decide_eq_false h2, Bool.false_and]
  · rw [bne_iff_ne.2 h1, cond_true, decide_eq_false h1, Bool.false_and]
theorem sameDia_ans (d e : Dia) (hl : d.2.2.1.length ≤ 1048576) : Ans 111 s_impl_sameDia (d, e, ()) ((decide (d = e), ()), ()) := by
  refine Ans.of (fun k => impl_sameDia.F_eq (cl k) k d e) ((Ev.ge (d.2.2.1.length + 1)).mono fun k hk => ?_)
  simp only [impl_sameDia.F, impl_sameDia.Fm, dia_dec]
  by_cases h1 : d.1 = e.1
  · rw [h1, bne_self_eq_false, cond_false, decide_eq_true rfl, Bool.true_and]
    by_cases h2 : d.2.1 = e.2.1
    · rw [h2, bne_self_eq_false, cond_false, decide_eq_true rfl, Bool.true_and]
      by_cases h3 : d.2.2.1.length = e.2.2.1.length
      · rw [show ((d.2.2.1.length : Int) != (e.2.2.1.length : Int)) = false by rw [h3]; exact bne_self_eq_false _, cond_false]
        exact sameLoop k d e hl h3 d.2.2.1.length k 0 rfl (by omega)
      · rw [bne_iff_ne.2 (by omega), cond_true, decide_eq_false fun h => h3 (by rw [h])]
    · rw [bne_iff_ne.2 h2, cond_true, decide_eq_false h2, Bool.false_and]
  · rw [bne_iff_ne.2 h1, cond_true, decide_eq_false h1, Bool.false_and]

/-! ### References that go back -/
def deepB (ks : List Kn) (v r : Int) : Bool := decide (r ≤ 1) || match ks[(r - 2).toNat]? with
  | some m => !decide (m.1 ≤ v)
  | none => false
def refB (ks : List Kn) (v : Int) (i : Nat) (r : Int) : Bool := decide (0 ≤ r) && decide (r ≤ (i : Int) + 1) && deepB ks v r
def knB (m : Int) (ks : List Kn) (i : Nat) (k : Kn) : Bool := decide (0 ≤ k.1) && decide (k.1 < m) && (refB ks k.1 i k.2.1 && refB ks k.1 i k.2.2.1)
def goB (m : Int) (ks : List Kn) : List Kn → Nat → Bool
  | [], _ => true
  | k :: r, i => knB m ks i k && goB m ks r (i + 1)
def goodB (M : Nat) (d : Dia) : Bool := decide (0 ≤ d.1) && decide (d.1 ≤ 10) && (decide (d.2.2.1.length ≤ M) && (decide (0 ≤ d.2.1) && decide (d.2.1 ≤ (d.2.2.1.length : Int) + 1) && goB d.1 d.2.2.1 d.2.2.1 0))
theorem goB_all {m : Int} {ks : List Kn} : ∀ {l : List Kn} {i : Nat}, goB m ks l i = true → ∀ (j : Nat) (h : j < l.length), knB m ks (i + j) l[j] = true
  | [], _, _, j, h => by simp at h
  | a :: l, i, h, j, hj => by
    unfold goB at h
    have ⟨h1, h2⟩ := Bool.and_eq_true_iff.1 h
    cases j with
    | zero => exact h1
    | succ j =>
      have := goB_all h2 j (by simp only [List.length_cons] at hj; omega)
      rw [show i + 1 + j = i + (j + 1) by omega] at this
      exact this
theorem goodB_at {M : Nat} {d : Dia} (h : goodB M d = true) : (0 ≤ d.1 ∧ d.1 ≤ 10) ∧ d.2.2.1.length ≤ M ∧ (0 ≤ d.2.1 ∧ d.2.1 ≤ (d.2.2.1.length : Int) + 1) ∧ goB d.1 d.2.2.1 d.2.2.1 0 = true := by
  unfold goodB at h
  simp only [Bool.and_eq_true, decide_eq_true_eq] at h
  exact ⟨h.1, h.2.1, h.2.2.1, h.2.2.2⟩
theorem goodB_falls {M : Nat} {d : Dia} (h : goodB M d = true) : Falls d.1.toNat d.2.2.1 := fun i hi => by
  have ⟨h0, h1, h2, h3⟩ := goodB_at h
  have h4 := goB_all h3 i hi
  rw [Nat.zero_add] at h4
  unfold knB refB at h4
  simp only [Bool.and_eq_true, decide_eq_true_eq] at h4
  refine ⟨⟨h4.1.1, ?_⟩, h4.2.1.1, h4.2.2.1⟩
  have := h4.1.2
  omega

theorem deepStep {ρ : Type} (ks : List Kn) (v r : Int) (x X : Option ρ) (h0 : 0 ≤ r) (h1 : r ≤ (ks.length : Int) + 1) (hl : ks.length ≤ 1048576) :
    (bif decide (r > 1) then bif decide ((0 : Int) ≤ IntKind.i64.wrap (r - 2)) then (lget ks (IntKind.i64.wrap (r - 2)).toNat).bind fun y => bif decide (y.1 ≤ v) then x else X else none else X) = bif deepB ks v r then X else x := by
  unfold deepB
  by_cases hr : r ≤ 1
  · rw [decide_eq_false (by omega), cond_false, decide_eq_true hr, Bool.true_or, cond_true]
  · rw [decide_eq_true (by omega), cond_true, decide_eq_false hr, Bool.false_or]
    obtain ⟨i, rfl⟩ : ∃ i : Nat, r = (i : Int) + 2 := ⟨(r - 2).toNat, by omega⟩
    have hi : i < ks.length := by omega
    have e1 : (i : Int) + 2 - 2 = (i : Int) := by omega
    rw [e1, w64n (show i ≤ 9223372036854775807 by omega), dle0, cond_true, Int.toNat_natCast, lgn hi, Option.bind_some, List.getElem?_eq_getElem hi]
    dsimp only
    cases decide (ks[i].1 ≤ v) <;> rfl
theorem refStep {ρ : Type} (ks : List Kn) (v r : Int) (j : Nat) (x X : Option ρ) (hj : j < ks.length) (hl : ks.length ≤ 1048576) :
    (bif decide (r < 0) then x else bif decide (r > (j : Int) + 1) then x else bif decide (r > 1) then bif decide ((0 : Int) ≤ IntKind.i64.wrap (r - 2)) then (lget ks (IntKind.i64.wrap (r - 2)).toNat).bind fun y => bif decide (y.1 ≤ v) then x else X else none else X) = bif refB ks v j r then X else x := by
  unfold refB
  by_cases h0 : 0 ≤ r
  · rw [decide_eq_false (by omega), cond_false, decide_eq_true h0, Bool.true_and]
    by_cases h1 : r ≤ (j : Int) + 1
    · rw [decide_eq_false (by omega), cond_false, decide_eq_true h1, Bool.true_and]
      exact deepStep ks v r x X h0 (by omega) hl
    · rw [decide_eq_true (by omega), cond_true, decide_eq_false h1, Bool.false_and, cond_false]
  · rw [decide_eq_true (by omega), cond_true, decide_eq_false h0, Bool.false_and, Bool.false_and, cond_false]

theorem sound_ans (d : Dia) (hl : d.2.2.1.length ≤ 1048576) : Ans 108 s_impl_sound (d, ()) ((goodB 2048 d, ()), ()) := by
  refine Ans.of (fun k => impl_sound.F_eq (cl k) k d) ((Ev.ge (d.2.2.1.length + 4)).mono fun k hk => ?_)
  have key1 : ∀ (j : Nat) (hj : j < d.2.2.1.length) (r0 : Int → Option impl_sound.R) (q : Nat), 3 ≤ q → impl_sound.L1 (cl k) k d (j : Int) d.2.2.1[j] r0 q (0 : Int) = bif refB d.2.2.1 d.2.2.1[j].1 j d.2.2.1[j].2.1 && refB d.2.2.1 d.2.2.1[j].1 j d.2.2.1[j].2.2.1 then r0 ((j + 1 : Nat) : Int) else some ((false, ()), ()) := by
    intro j hj r0 q hq
    obtain ⟨q, rfl⟩ : ∃ p, q = p + 3 := ⟨q - 3, by omega⟩
    have hw := ws hj (show d.2.2.1.length ≤ 9223372036854775807 by omega)
    have hw' : IntKind.i64.wrap ((j : Int) + 1) = (j : Int) + 1 := w64 (by omega) (by omega)
    have s2 : impl_sound.L1 (cl k) k d (j : Int) d.2.2.1[j] r0 (q + 1) (2 : Int) = r0 ((j + 1 : Nat) : Int) := by
      show r0 (IntKind.i64.wrap ((j : Int) + 1)) = _
      rw [hw]
    have s1 : impl_sound.L1 (cl k) k d (j : Int) d.2.2.1[j] r0 (q + 2) (1 : Int) = bif refB d.2.2.1 d.2.2.1[j].1 j d.2.2.1[j].2.2.1 then r0 ((j + 1 : Nat) : Int) else some ((false, ()), ()) := by
      rw [← s2, ← refStep d.2.2.1 d.2.2.1[j].1 d.2.2.1[j].2.2.1 j _ _ hj hl, ← hw']
      rfl
    rw [show (bif refB d.2.2.1 d.2.2.1[j].1 j d.2.2.1[j].2.1 && refB d.2.2.1 d.2.2.1[j].1 j d.2.2.1[j].2.2.1 then r0 ((j + 1 : Nat) : Int) else some ((false, ()), ())) = bif refB d.2.2.1 d.2.2.1[j].1 j d.2.2.1[j].2.1 then (bif refB d.2.2.1 d.2.2.1[j].1 j d.2.2.1[j].2.2.1 then r0 ((j + 1 : Nat) : Int) else some ((false, ()), ())) else some ((false, ()), ()) by
      cases refB d.2.2.1 d.2.2.1[j].1 j d.2.2.1[j].2.1 <;> rfl]
    rw [← s1, ← refStep d.2.2.1 d.2.2.1[j].1 d.2.2.1[j].2.1 j _ _ hj hl, ← hw']
    rfl
  have key0 : ∀ (n q j : Nat), d.2.2.1.length - j = n → n < q → impl_sound.L0 (cl k) k d q (j : Int) = some ((goB d.1 d.2.2.1 (d.2.2.1.drop j) j, ()), ()) := by
    intro n
    induction n with
    | zero =>
      intro q j hd hq
      obtain ⟨q, rfl⟩ : ∃ p, q = p + 1 := ⟨q - 1, by omega⟩
      simp only [impl_sound.L0, impl_sound.step0, dnlt (show d.2.2.1.length ≤ j by omega), cond_false, List.drop_of_length_le (show d.2.2.1.length ≤ j by omega)]
      rfl
    | succ n ih =>
      intro q j hd hq
      obtain ⟨q, rfl⟩ : ∃ p, q = p + 1 := ⟨q - 1, by omega⟩
      have hj : j < d.2.2.1.length := by omega
      simp only [impl_sound.L0, impl_sound.step0, dlt hj, cond_true, dle0, lg hj, Option.bind_some]
      rw [List.drop_eq_getElem_cons hj]
      unfold goB knB
      by_cases h0 : 0 ≤ d.2.2.1[j].1
      · rw [decide_eq_false (by omega), cond_false, decide_eq_true h0, Bool.true_and]
        by_cases h1 : d.2.2.1[j].1 < d.1
        · rw [decide_eq_false (by omega), cond_false, decide_eq_true h1, Bool.true_and]
          refine (key1 j hj _ k (by omega)).trans ?_
          rw [ih q (j + 1) (by omega) (by omega)]
          cases refB d.2.2.1 d.2.2.1[j].1 j d.2.2.1[j].2.1 && refB d.2.2.1 d.2.2.1[j].1 j d.2.2.1[j].2.2.1 <;> rfl
        · rw [decide_eq_true (by omega), cond_true, decide_eq_false h1, Bool.false_and, Bool.false_and]
      · rw [decide_eq_true (by omega), cond_true, decide_eq_false h0, Bool.false_and, Bool.false_and, Bool.false_and]
  simp only [impl_sound.F, impl_sound.Fm]
  unfold goodB
  by_cases h0 : 0 ≤ d.1
  · rw [decide_eq_false (by omega), cond_false, decide_eq_true h0, Bool.true_and]
    by_cases h1 : d.1 ≤ 10
    · rw [decide_eq_false (by omega), cond_false, decide_eq_true h1, Bool.true_and]
      by_cases h2 : d.2.2.1.length ≤ 2048
      · rw [decide_eq_false (by omega), cond_false, decide_eq_true h2, Bool.true_and]
        by_cases h3 : 0 ≤ d.2.1
        · rw [decide_eq_false (by omega), cond_false, decide_eq_true h3, Bool.true_and, w64 (x := (d.2.2.1.length : Int) + 1) (by omega) (by omega)]
          by_cases h4 : d.2.1 ≤ (d.2.2.1.length : Int) + 1
          · rw [decide_eq_false (by omega), cond_false, decide_eq_true h4, Bool.true_and]
            exact key0 d.2.2.1.length k 0 rfl (by omega)
          · rw [decide_eq_true (by omega), cond_true, decide_eq_false h4, Bool.false_and]
        · rw [decide_eq_true (by omega), cond_true, decide_eq_false h3, Bool.false_and, Bool.false_and]
      · rw [decide_eq_true (by omega), cond_true, decide_eq_false h2, Bool.false_and]
    · rw [decide_eq_true (by omega), cond_true, decide_eq_false h1, Bool.false_and]
  · rw [decide_eq_true (by omega), cond_true, decide_eq_false h0, Bool.false_and, Bool.false_and]

theorem l13Refs_ans (d : Dia) (hl : d.2.2.1.length ≤ 1048576) : Ans 103 s_spec_l13Refs (d, ()) ((goodB 1023 d, ()), ()) := by
  refine Ans.of (fun k => spec_l13Refs.F_eq (cl k) k d) ((l1In_ev.and (Ev.ge (d.2.2.1.length + 4))).mono fun k ⟨hin, hk⟩ => ?_)
  have hin : ∀ a b c : Int, cl k 88 s_spec_l1In (a, b, c, ()) = some ((decide (b ≤ a) && decide (a ≤ c), ()), ()) := hin
  have key0 : (0 ≤ d.1 ∧ d.1 ≤ 10) → ∀ (n q j : Nat), d.2.2.1.length - j = n → n < q → spec_l13Refs.L0 (cl k) k d q (j : Int) = some ((goB d.1 d.2.2.1 (d.2.2.1.drop j) j, ()), ()) := by
    intro hd1 n
    induction n with
    | zero =>
      intro q j hd hq
      obtain ⟨q, rfl⟩ : ∃ p, q = p + 1 := ⟨q - 1, by omega⟩
      simp only [spec_l13Refs.L0, spec_l13Refs.step0, dnlt (show d.2.2.1.length ≤ j by omega), cond_false, List.drop_of_length_le (show d.2.2.1.length ≤ j by omega)]
      rfl
    | succ n ih =>
      intro q j hd hq
      obtain ⟨q, rfl⟩ : ∃ p, q = p + 1 := ⟨q - 1, by omega⟩
      have hj : j < d.2.2.1.length := by omega
      have hw' : IntKind.i64.wrap ((j : Int) + 1) = (j : Int) + 1 := w64 (by omega) (by omega)
      have hv' : IntKind.i64.wrap (d.1 - 1) = d.1 - 1 := w64 (by omega) (by omega)
      have hi := ih q (j + 1) (by omega) (by omega)
      rw [List.drop_eq_getElem_cons hj]
      unfold goB knB
      generalize hX : spec_l13Refs.L0 (cl k) k d q ((j + 1 : Nat) : Int) = X at hi
      have hX' : spec_l13Refs.L0 (cl k) k d q (IntKind.i64.wrap ((j : Int) + 1)) = X := by
        rw [← hX, hw']; rfl
      simp only [spec_l13Refs.L0, spec_l13Refs.step0, dlt hj, cond_true, dle0, lg hj, Option.bind_some, hin, hX']
      simp only [hw', hv']
      rw [show decide (d.2.2.1[j].1 ≤ d.1 - 1) = decide (d.2.2.1[j].1 < d.1) from decide_eq_decide.2 (by omega)]
      cases h1 : (decide (0 ≤ d.2.2.1[j].1) && decide (d.2.2.1[j].1 < d.1)) with
      | false => simp only [Bool.not_false, cond_true, Bool.false_and]
      | true =>
        simp only [Bool.not_true, cond_false, Bool.true_and]
        unfold refB
        cases h2 : (decide (0 ≤ d.2.2.1[j].2.1) && decide (d.2.2.1[j].2.1 ≤ (j : Int) + 1)) with
        | false => simp only [Bool.not_false, cond_true, Bool.false_and]
        | true =>
          simp only [Bool.not_true, cond_false, Bool.true_and]
          cases h3 : (decide (0 ≤ d.2.2.1[j].2.2.1) && decide (d.2.2.1[j].2.2.1 ≤ (j : Int) + 1)) with
          | false => simp only [Bool.not_false, cond_true, Bool.false_and, Bool.and_false]
          | true =>
            simp only [Bool.not_true, cond_false, Bool.true_and]
            simp only [Bool.and_eq_true, decide_eq_true_eq] at h2 h3
            rw [deepStep d.2.2.1 d.2.2.1[j].1 d.2.2.1[j].2.2.1 (some ((false, ()), ())) X h3.1 (by omega) hl]
            rw [deepStep d.2.2.1 d.2.2.1[j].1 d.2.2.1[j].2.1 (some ((false, ()), ())) _ h2.1 (by omega) hl, hi]
            cases deepB d.2.2.1 d.2.2.1[j].1 d.2.2.1[j].2.1 <;> cases deepB d.2.2.1 d.2.2.1[j].1 d.2.2.1[j].2.2.1 <;> rfl
  simp only [spec_l13Refs.F, spec_l13Refs.Fm, hin, Option.bind_some]
  unfold goodB
  rw [w64 (x := (d.2.2.1.length : Int) + 1) (by omega) (by omega)]
  cases h1 : (decide (0 ≤ d.1) && decide (d.1 ≤ 10)) with
  | false => rfl
  | true =>
    simp only [Bool.and_eq_true, decide_eq_true_eq] at h1
    rw [Bool.not_true, cond_false, Bool.true_and]
    by_cases h2 : d.2.2.1.length ≤ 1023
    · rw [decide_eq_false (by omega), cond_false, decide_eq_true h2, Bool.true_and]
      cases (decide (0 ≤ d.2.1) && decide (d.2.1 ≤ (d.2.2.1.length : Int) + 1)) with
      | false => rfl
      | true => exact key0 h1 d.2.2.1.length k 0 rfl (by omega)
    · rw [decide_eq_true (by omega), cond_true, decide_eq_false h2, Bool.false_and]

/-! ### DiaOk -/
def diaOk (d : Dia) : Bool := goodB 1023 d && decide (mkDia d.1.toNat (tab d.1.toNat d.2.2.1 d.2.1) = d)
theorem mkDia_len (m : Nat) (t : List Bool) (hm : m ≤ 10) : (mkDia m t).2.2.1.length ≤ 1023 := by
  have := putP_len m [] 0 t
  have hp := pow10 hm
  show (putP m [] 0 t).1.length ≤ 1023
  simp only [List.length_nil] at this
  omega
theorem spec_DiaOk_ans (d : Dia) (hl : d.2.2.1.length ≤ 1048576) : Ans 44 s_spec_DiaOk (d, ()) ((diaOk d, ()), ()) := by
  have hF := fun k => spec_DiaOk.F_eq (cl k) k d
  have h1 := l13Refs_ans d hl
  unfold diaOk
  cases hg : goodB 1023 d with
  | false =>
    rw [hg] at h1
    refine Ans.of hF (h1.mono fun k h => ?_)
    simp only [spec_DiaOk.F, spec_DiaOk.Fm, h, Option.bind_some, cond_false, Bool.false_and]
  | true =>
    rw [hg] at h1
    have ⟨g0, g1, g2, g3⟩ := goodB_at hg
    have hd : d.1 = (d.1.toNat : Int) := by omega
    have h2 := l13Table_ans d d.1.toNat (by omega) hd hl (goodB_falls hg) g2.1 g2.2
    have h3 := l13Make_ans d.1.toNat (tab d.1.toNat d.2.2.1 d.2.1) (by omega) (tab_len _ _ _)
    have h4 := l13Like_ans d (mkDia d.1.toNat (tab d.1.toNat d.2.2.1 d.2.1)) hl
    refine Ans.of hF ((h1.and (h2.and (h3.and h4))).mono fun k ⟨h1, h2, h3, h4⟩ => ?_)
    rw [← hd] at h3
    simp only [spec_DiaOk.F, spec_DiaOk.Fm, h1, Option.bind_some, cond_true, h2, h3, Bool.true_and]
    rw [show cl k 104 s_spec_l13Like (d, ((mkDia d.1.toNat (tab d.1.toNat d.2.2.1 d.2.1)).1, (mkDia d.1.toNat (tab d.1.toNat d.2.2.1 d.2.1)).2.1, (mkDia d.1.toNat (tab d.1.toNat d.2.2.1 d.2.1)).2.2.1, (mkDia d.1.toNat (tab d.1.toNat d.2.2.1 d.2.1)).2.2.2), ()) = _ from h4, Option.bind_some]
    rw [show decide (d = mkDia d.1.toNat (tab d.1.toNat d.2.2.1 d.2.1)) = decide (mkDia d.1.toNat (tab d.1.toNat d.2.2.1 d.2.1) = d) from decide_eq_decide.2 eq_comm]
theorem impl_DiaOk_ans (d : Dia) (hl : d.2.2.1.length ≤ 1048576) : Ans 46 s_impl_DiaOk (d, ()) ((diaOk d, ()), ()) := by
  have hF := fun k => impl_DiaOk.F_eq (cl k) k d
  have h1 := sound_ans d hl
  cases hg : goodB 2048 d with
  | false =>
    have hn : diaOk d = false := by
      cases h : diaOk d with
      | false => rfl
      | true =>
        unfold diaOk at h
        have ⟨h, _⟩ := Bool.and_eq_true_iff.1 h
        have ⟨g0, g1, g2, g3⟩ := goodB_at h
        unfold goodB at hg
        rw [decide_eq_true g0.1, decide_eq_true g0.2, decide_eq_true (show d.2.2.1.length ≤ 2048 by omega), decide_eq_true g2.1, decide_eq_true g2.2, g3] at hg
        cases hg
    rw [hg] at h1
    rw [hn]
    refine Ans.of hF (h1.mono fun k h => ?_)
    simp only [impl_DiaOk.F, impl_DiaOk.Fm, h, Option.bind_some, Bool.not_false, cond_true]
  | true =>
    rw [hg] at h1
    have ⟨g0, g1, g2, g3⟩ := goodB_at hg
    have hd : d.1 = (d.1.toNat : Int) := by omega
    have hlen := mkDia_len d.1.toNat (tab d.1.toNat d.2.2.1 d.2.1) (by omega)
    have hn : diaOk d = decide (mkDia d.1.toNat (tab d.1.toNat d.2.2.1 d.2.1) = d) := by
      unfold diaOk
      by_cases h : mkDia d.1.toNat (tab d.1.toNat d.2.2.1 d.2.1) = d
      · rw [h] at hlen
        unfold goodB
        rw [decide_eq_true g0.1, decide_eq_true g0.2, decide_eq_true hlen, decide_eq_true g2.1, decide_eq_true g2.2, g3]; rfl
      · rw [decide_eq_false h, Bool.and_false]
    have h2 := tableOf_ans d d.1.toNat (by omega) hd hl (goodB_falls hg) g2.1 g2.2
    have h3 := diaOf_ans d.1.toNat (tab d.1.toNat d.2.2.1 d.2.1) (by omega) (tab_len _ _ _)
    have h4 := sameDia_ans (mkDia d.1.toNat (tab d.1.toNat d.2.2.1 d.2.1)) d (by omega)
    refine Ans.of hF ((h1.and (h2.and (h3.and h4))).mono fun k ⟨h1, h2, h3, h4⟩ => ?_)
    rw [← hd] at h3
    simp only [impl_DiaOk.F, impl_DiaOk.Fm, h1, Option.bind_some, Bool.not_true, cond_false, h2, h3]
    rw [show cl k 111 s_impl_sameDia (((mkDia d.1.toNat (tab d.1.toNat d.2.2.1 d.2.1)).1, (mkDia d.1.toNat (tab d.1.toNat d.2.2.1 d.2.1)).2.1, (mkDia d.1.toNat (tab d.1.toNat d.2.2.1 d.2.1)).2.2.1, (mkDia d.1.toNat (tab d.1.toNat d.2.2.1 d.2.1)).2.2.2), d, ()) = _ from h4, Option.bind_some, hn]

end Go.Proofs.Ytcmgjdmhemfecaa.Pf
