/- Does a clause hold? Models. No condition. -/
import Derived.Test.YtcmgjdmhemfecaaPfD
namespace Go.Proofs.Ytcmgjdmhemfecaa.Pf
open Go Go.Pv

/-- A literal holds with these bits (of the variables from 1 on). -/
def litB (bits : List Bool) (n : Int) : Bool := (bits[n.natAbs - 1]?).getD false == decide (n > 0)
def holdsB (bits : List Bool) (c : List (List Int)) : Bool := c.all fun y => y.any (litB bits)
def InBits (bits : List Bool) (c : List (List Int)) : Prop := ∀ y ∈ c, ∀ n ∈ y, 1 ≤ n.natAbs ∧ n.natAbs ≤ bits.length

theorem any_drop {α : Type} (f : α → Bool) (y : List α) (i : Nat) (hi : i < y.length) : (y.drop i).any f = (f y[i] || (y.drop (i + 1)).any f) := by
  rw [List.drop_eq_getElem_cons hi]; rfl
theorem all_drop {α : Type} (f : α → Bool) (y : List α) (i : Nat) (hi : i < y.length) : (y.drop i).all f = (f y[i] && (y.drop (i + 1)).all f) := by
  rw [List.drop_eq_getElem_cons hi]; rfl

theorem wm1 {m : Nat} (h0 : 1 ≤ m) (h1 : m ≤ 9223372036854775807) : IntKind.i64.wrap ((m : Int) - 1) = ((m - 1 : Nat) : Int) := by
  rw [w64 (by omega) (by omega)]; omega

theorem l14Holds_ans (v0 : Int) (c : List (List Int)) (bits : List Bool) (hc : c.length ≤ 1048576) (hr : Range c) (hb : InBits bits c) : Ans 112 s_spec_l14Holds ((v0, c, ()), bits, ()) ((holdsB bits c, ()), ()) := by
  refine Ans.of (fun k => spec_l14Holds.F_eq (cl k) k (v0, c, ()) bits) ?_
  have key1 : ∀ (k : Nat), AbsK k → ∀ (j : Nat) (hj : j < c.length) (r0 : Int → Option spec_l14Holds.R) (d q i : Nat) (is : Bool), c[j].length - i = d → d < q →
      spec_l14Holds.L1 (cl k) k (v0, c, ()) bits (j : Int) r0 q is (i : Int) = bif is || (c[j].drop i).any (litB bits) then r0 ((j + 1 : Nat) : Int) else some ((false, ()), ()) := by
    intro k hk j hj r0 d
    have hrj := hr c[j] (List.getElem_mem hj)
    have hbj := hb c[j] (List.getElem_mem hj)
    induction d with
    | zero =>
      intro q i is hd hq
      obtain ⟨q, rfl⟩ : ∃ m, q = m + 1 := ⟨q - 1, by omega⟩
      simp only [spec_l14Holds.L1, spec_l14Holds.step1, dle0, cond_true, lg hj, Option.bind_some, dnlt (show c[j].length ≤ i by omega), cond_false, ws hj (show c.length ≤ 9223372036854775807 by omega)]
      rw [List.drop_of_length_le (by omega)]
      cases is <;> rfl
    | succ d ih =>
      intro q i is hd hq
      obtain ⟨q, rfl⟩ : ∃ m, q = m + 1 := ⟨q - 1, by omega⟩
      have hi : i < c[j].length := by omega
      have hn := hrj.2 c[j][i] (List.getElem_mem hi)
      have hv : absW c[j][i] = (c[j][i].natAbs : Int) := absW_eq (by omega) (by omega)
      have hb1 := hbj c[j][i] (List.getElem_mem hi)
      have hw := wm1 (m := c[j][i].natAbs) hb1.1 (by omega)
      have hlt : c[j][i].natAbs - 1 < bits.length := by omega
      simp only [spec_l14Holds.L1, spec_l14Holds.step1, dle0, cond_true, lg hj, Option.bind_some, dlt hi, lg hi, hk c[j][i], hv, hw, lg hlt, ws hi (show c[j].length ≤ 9223372036854775807 by omega)]
      rw [any_drop _ _ _ hi]
      have hl : litB bits c[j][i] = (bits[c[j][i].natAbs - 1] == decide (c[j][i] > 0)) := by
        unfold litB
        rw [List.getElem?_eq_getElem hlt]; rfl
      rw [hl]
      cases (bits[c[j][i].natAbs - 1] == decide (c[j][i] > 0)) with
      | true =>
        rw [cond_true, ih q (i + 1) true (by omega) (by omega)]
        cases is <;> simp
      | false =>
        rw [cond_false, ih q (i + 1) is (by omega) (by omega)]
        cases is <;> simp
  have key0 : ∀ (k : Nat), AbsK k → 13 ≤ k → ∀ (d q j : Nat), c.length - j = d → d < q → spec_l14Holds.L0 (cl k) k (v0, c, ()) bits q (j : Int) = some ((holdsB bits (c.drop j), ()), ()) := by
    intro k hk hk2 d
    induction d with
    | zero =>
      intro q j hd hq
      obtain ⟨q, rfl⟩ : ∃ m, q = m + 1 := ⟨q - 1, by omega⟩
      simp only [spec_l14Holds.L0, spec_l14Holds.step0, dnlt (show c.length ≤ j by omega), cond_false]
      rw [List.drop_of_length_le (by omega)]; rfl
    | succ d ih =>
      intro q j hd hq
      obtain ⟨q, rfl⟩ : ∃ m, q = m + 1 := ⟨q - 1, by omega⟩
      have hj : j < c.length := by omega
      have hrj := hr c[j] (List.getElem_mem hj)
      simp only [spec_l14Holds.L0, spec_l14Holds.step0, dlt hj, cond_true]
      have h1 := key1 k hk j hj (spec_l14Holds.L0 (cl k) k (v0, c, ()) bits q) c[j].length k 0 false rfl (by omega)
      refine h1.trans ?_
      rw [ih q (j + 1) (by omega) (by omega)]
      unfold holdsB
      rw [all_drop _ _ _ hj, List.drop_zero, Bool.false_or]
      cases c[j].any (litB bits) <;> rfl
  refine (l14Abs_ev.and (Ev.ge (c.length + 13))).mono fun k ⟨h1, hk⟩ => ?_
  have := key0 k h1 (by omega) c.length k 0 rfl (by omega)
  rw [List.drop_zero] at this
  exact this

theorem isModel1_ans (bits : List Bool) : Ev fun k => ∀ m : Nat, 1 ≤ m → m ≤ bits.length → m ≤ 1048576 → cl k 114 s_impl_IsModel_1 ((m : Int), bits, ()) = some (((bits[m - 1]?).getD false, ()), ()) := Ev.succ fun k m h0 h1 h2 => by
  rw [cl_succ, impl_IsModel_1.F_eq (cl k) k (m : Int) bits]
  have hlt : m - 1 < bits.length := by omega
  simp only [impl_IsModel_1.F, impl_IsModel_1.Fm, wm1 h0 (show m ≤ 9223372036854775807 by omega), dle0, cond_true, lg hlt, Option.bind_some]
  rw [List.getElem?_eq_getElem hlt]; rfl

theorem holdsM_ans (v0 : Int) (c : List (List Int)) (bits : List Bool) (hc : c.length ≤ 1048576) (hr : Range c) (hb : InBits bits c) : Ans 11500113 s_impl_holds__impl_IsModel_1 ((v0, c, ()), (bits, ()), ()) ((holdsB bits c, ()), ()) := by
  refine Ans.of (fun k => impl_holds__impl_IsModel_1.F_eq (cl k) k (v0, c, ()) (bits, ())) ?_
  have key1 : ∀ (k : Nat), VarK k → (∀ m : Nat, 1 ≤ m → m ≤ bits.length → m ≤ 1048576 → cl k 114 s_impl_IsModel_1 ((m : Int), bits, ()) = some (((bits[m - 1]?).getD false, ()), ())) → ∀ (j : Nat) (hj : j < c.length) (r0 : Int → Option impl_holds__impl_IsModel_1.R) (d q i : Nat) (is : Bool), c[j].length - i = d → d < q →
      impl_holds__impl_IsModel_1.L1 (cl k) k (bits, ()) (j : Int) c[j] r0 q is (i : Int) = bif is || (c[j].drop i).any (litB bits) then r0 ((j + 1 : Nat) : Int) else some ((false, ()), ()) := by
    intro k hk hk2 j hj r0 d
    have hrj := hr c[j] (List.getElem_mem hj)
    have hbj := hb c[j] (List.getElem_mem hj)
    induction d with
    | zero =>
      intro q i is hd hq
      obtain ⟨q, rfl⟩ : ∃ m, q = m + 1 := ⟨q - 1, by omega⟩
      simp only [impl_holds__impl_IsModel_1.L1, impl_holds__impl_IsModel_1.step1, dnlt (show c[j].length ≤ i by omega), cond_false, ws hj (show c.length ≤ 9223372036854775807 by omega)]
      rw [List.drop_of_length_le (by omega)]
      cases is <;> rfl
    | succ d ih =>
      intro q i is hd hq
      obtain ⟨q, rfl⟩ : ∃ m, q = m + 1 := ⟨q - 1, by omega⟩
      have hi : i < c[j].length := by omega
      have hn := hrj.2 c[j][i] (List.getElem_mem hi)
      have hv : absV c[j][i] = (c[j][i].natAbs : Int) := absV_eq (by omega) (by omega)
      have hb1 := hbj c[j][i] (List.getElem_mem hi)
      simp only [impl_holds__impl_IsModel_1.L1, impl_holds__impl_IsModel_1.step1, dle0, cond_true, Option.bind_some, dlt hi, lg hi, hk c[j][i], hv, hk2 _ hb1.1 hb1.2 (by omega), ws hi (show c[j].length ≤ 9223372036854775807 by omega)]
      rw [any_drop _ _ _ hi]
      cases is with
      | true =>
        rw [cond_true, ih q (i + 1) true (by omega) (by omega)]
        simp
      | false =>
        rw [cond_false, ih q (i + 1) _ (by omega) (by omega)]
        simp [litB]
  have key0 : ∀ (k : Nat), VarK k → (∀ m : Nat, 1 ≤ m → m ≤ bits.length → m ≤ 1048576 → cl k 114 s_impl_IsModel_1 ((m : Int), bits, ()) = some (((bits[m - 1]?).getD false, ()), ())) → 13 ≤ k → ∀ (d q j : Nat), c.length - j = d → d < q → impl_holds__impl_IsModel_1.L0 (cl k) k (v0, c, ()) (bits, ()) q (j : Int) = some ((holdsB bits (c.drop j), ()), ()) := by
    intro k hk hk3 hk2 d
    induction d with
    | zero =>
      intro q j hd hq
      obtain ⟨q, rfl⟩ : ∃ m, q = m + 1 := ⟨q - 1, by omega⟩
      simp only [impl_holds__impl_IsModel_1.L0, impl_holds__impl_IsModel_1.step0, dnlt (show c.length ≤ j by omega), cond_false]
      rw [List.drop_of_length_le (by omega)]; rfl
    | succ d ih =>
      intro q j hd hq
      obtain ⟨q, rfl⟩ : ∃ m, q = m + 1 := ⟨q - 1, by omega⟩
      have hj : j < c.length := by omega
      have hrj := hr c[j] (List.getElem_mem hj)
      simp only [impl_holds__impl_IsModel_1.L0, impl_holds__impl_IsModel_1.step0, dlt hj, cond_true, dle0, lg hj, Option.bind_some]
      have h1 := key1 k hk hk3 j hj (impl_holds__impl_IsModel_1.L0 (cl k) k (v0, c, ()) (bits, ()) q) c[j].length k 0 false rfl (by omega)
      refine h1.trans ?_
      rw [ih q (j + 1) (by omega) (by omega)]
      unfold holdsB
      rw [all_drop _ _ _ hj, List.drop_zero, Bool.false_or]
      cases c[j].any (litB bits) <;> rfl
  refine (variableOf_ev.and ((isModel1_ans bits).and (Ev.ge (c.length + 13)))).mono fun k ⟨h1, h2, hk⟩ => ?_
  have := key0 k h1 h2 (by omega) c.length k 0 rfl (by omega)
  rw [List.drop_zero] at this
  exact this

theorem CnfRight.inBits {c : Cnf} (h : CnfRight c) {bits : List Bool} (hb : (bits.length : Int) = c.1) : InBits bits c.2.1 := fun y hy n hn => by
  have := (h.2.2.1 y hy).range n hn
  omega

noncomputable def isModel (c : Cnf) (bits : List Bool) : Bool := by
  classical exact if CnfRight c ∧ (bits.length : Int) = c.1 then holdsB bits c.2.1 else false
theorem spec_IsModel_ans (c : Cnf) (hs : Small c) (bits : List Bool) : Ans 47 s_spec_IsModel (c, bits, ()) ((isModel c bits, ()), ()) := by
  obtain ⟨b, hb, hb2⟩ := spec_CnfOk_ans c hs
  refine Ans.of (fun k => spec_IsModel.F_eq (cl k) k c bits) ?_
  unfold isModel
  by_cases h : CnfRight c
  · rw [hb2.2 h] at hb
    by_cases hl : (bits.length : Int) = c.1
    · rw [if_pos ⟨h, hl⟩]
      refine (hb.and (l14Holds_ans c.1 c.2.1 bits hs.1 h.range' (h.inBits hl))).mono fun k ⟨h1, h2⟩ => ?_
      have h2 : cl k 112 s_spec_l14Holds (c, bits, ()) = some ((holdsB bits c.2.1, ()), ()) := h2
      simp only [spec_IsModel.F, spec_IsModel.Fm, h1, Option.bind_some, h2, cond_true, hl, beq_self_eq_true]
    · rw [if_neg fun e => hl e.2]
      refine hb.mono fun k h1 => ?_
      simp only [spec_IsModel.F, spec_IsModel.Fm, h1, Option.bind_some, cond_true, beq_false_of_ne hl, cond_false]
  · have : b = false := by cases b <;> first | rfl | exact absurd (hb2.1 rfl) h
    rw [this] at hb
    rw [if_neg fun e => h e.1]
    refine hb.mono fun k h1 => ?_
    simp only [spec_IsModel.F, spec_IsModel.Fm, h1, Option.bind_some, cond_false]
theorem impl_IsModel_ans (c : Cnf) (hs : Small c) (bits : List Bool) : Ans 49 s_impl_IsModel (c, bits, ()) ((isModel c bits, ()), ()) := by
  obtain ⟨b, hb, hb2⟩ := impl_CnfOk_ans c hs
  refine Ans.of (fun k => impl_IsModel.F_eq (cl k) k c bits) ?_
  unfold isModel
  by_cases h : CnfRight c
  · rw [hb2.2 h] at hb
    by_cases hl : (bits.length : Int) = c.1
    · rw [if_pos ⟨h, hl⟩]
      refine (hb.and (holdsM_ans c.1 c.2.1 bits hs.1 h.range' (h.inBits hl))).mono fun k ⟨h1, h2⟩ => ?_
      have h2 : cl k 11500113 s_impl_holds__impl_IsModel_1 (c, (bits, ()), ()) = some ((holdsB bits c.2.1, ()), ()) := h2
      simp only [impl_IsModel.F, impl_IsModel.Fm, h1, Option.bind_some, h2, Bool.not_true, cond_false, hl, bne_self_eq_false]
    · rw [if_neg fun e => hl e.2]
      refine hb.mono fun k h1 => ?_
      simp only [impl_IsModel.F, impl_IsModel.Fm, h1, Option.bind_some, Bool.not_true, cond_false, bne_iff_ne.2 hl, cond_true]
  · have : b = false := by cases b <;> first | rfl | exact absurd (hb2.1 rfl) h
    rw [this] at hb
    rw [if_neg fun e => h e.1]
    refine hb.mono fun k h1 => ?_
    simp only [impl_IsModel.F, impl_IsModel.Fm, h1, Option.bind_some, Bool.not_false, cond_true]

end Go.Proofs.Ytcmgjdmhemfecaa.Pf
