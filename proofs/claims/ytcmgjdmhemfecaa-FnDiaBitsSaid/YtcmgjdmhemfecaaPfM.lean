/- Dias: two Dias place by place, SomeDia. No condition. -/
import Derived.Test.YtcmgjdmhemfecaaPfL
import Derived.Test.YtcmgjdmhemfecaaPfT4
namespace Go.Proofs.Ytcmgjdmhemfecaa.Pf
open Go Go.Pv

def opB (and a b : Bool) : Bool := bif and then a && b else a || b
def bothT (and : Bool) (t u : List Bool) : List Bool := (List.range t.length).map fun i => opB and (t.getD i false) (u.getD i false)
theorem bothT_len (and : Bool) (t u : List Bool) : (bothT and t u).length = t.length := by simp [bothT]
def both (and : Bool) (a b : Dia) : Dia × (Bool × Unit) := if diaOk a ∧ diaOk b ∧ a.1 = b.1 then (mkDia a.1.toNat (bothT and (tab a.1.toNat a.2.2.1 a.2.1) (tab b.1.toNat b.2.2.1 b.2.1)), true, ()) else (zeroDia, false, ())
theorem both_len (and : Bool) (a b : Dia) : (both and a b).1.2.2.1.length ≤ 1023 := by
  unfold both
  split
  · rename_i h
    exact mkDia_len _ _ (diaOk_m h.1).1
  · exact Nat.zero_le _

theorem l13Both_ans (a b : Dia) (and : Bool) (hl : a.2.2.1.length ≤ 1048576) (hl2 : b.2.2.1.length ≤ 1048576) : Ans 123 s_spec_l13Both (a, b, and, ()) (both and a b, ()) := by
  have hF := fun k => spec_l13Both.F_eq (cl k) k a b and
  have h1 := spec_DiaOk_ans a hl
  have h2 := spec_DiaOk_ans b hl2
  unfold both
  cases hd : diaOk a with
  | false =>
    rw [hd] at h1
    rw [if_neg (by simp)]
    refine Ans.of hF (h1.mono fun k h1 => ?_)
    simp only [spec_l13Both.F, spec_l13Both.Fm, h1, Option.bind_some, Bool.not_false, cond_true]
    rfl
  | true =>
    rw [hd] at h1
    cases he : diaOk b with
    | false =>
      rw [he] at h2
      rw [if_neg (by simp)]
      refine Ans.of hF ((h1.and h2).mono fun k ⟨h1, h2⟩ => ?_)
      simp only [spec_l13Both.F, spec_l13Both.Fm, h1, h2, Option.bind_some, Bool.not_false, Bool.not_true, cond_true, cond_false]
      rfl
    | true =>
      rw [he] at h2
      by_cases hv : a.1 = b.1
      · rw [if_pos ⟨rfl, rfl, hv⟩]
        have ⟨m1, m2⟩ := diaOk_m hd
        have hp := pow10 m1
        have h3 := diaOk_tabS hd hl
        have h4 := diaOk_tabS he hl2
        have ht := tab_len a.1.toNat a.2.2.1 a.2.1
        have hu := tab_len b.1.toNat b.2.2.1 b.2.1
        rw [← hv] at h4 hu
        rw [← hv]
        generalize tab a.1.toNat a.2.2.1 a.2.1 = t at *
        generalize tab a.1.toNat b.2.2.1 b.2.1 = u at *
        have h5 := l13Make_ans a.1.toNat (bothT and t u) m1 (by rw [bothT_len, ht])
        rw [← m2] at h5
        have key : ∀ k, cl k 105 s_spec_l13Make (a.1, bothT and t u, ()) = some ((mkDia a.1.toNat (bothT and t u), ()), ()) → ∀ (n q j : Nat) (acc : List Bool), t.length - j = n → n < q → j ≤ t.length → acc.length = t.length → (∀ i, i < j → acc[i]? = some (opB and (t.getD i false) (u.getD i false))) → (∀ i, j ≤ i → acc[i]? = t[i]?) →
            spec_l13Both.L0 (cl k) k a and ((u, ()), ()) q (j : Int) acc = some ((mkDia a.1.toNat (bothT and t u), true, ()), ()) := by
          intro k h5 n
          induction n with
          | zero =>
            intro q j acc hn hq hjl ha a1 a2
            obtain ⟨q, rfl⟩ : ∃ p, q = p + 1 := ⟨q - 1, by omega⟩
            have e : acc = bothT and t u := by
              have := list_of (acc := acc) fun i hi => a1 i (by omega)
              rw [ha] at this
              exact this
            simp only [spec_l13Both.L0, spec_l13Both.step0, dnlt (show acc.length ≤ j by omega), cond_false]
            rw [e, h5]; rfl
          | succ n ih =>
            intro q j acc hn hq hjl ha a1 a2
            obtain ⟨q, rfl⟩ : ∃ p, q = p + 1 := ⟨q - 1, by omega⟩
            have hj : j < t.length := by omega
            have hj' : j < acc.length := by omega
            have hju : j < u.length := by omega
            have b1 : acc[j] = t.getD j false := by
              have := a2 j (Nat.le_refl _)
              rw [List.getElem?_eq_getElem hj, List.getElem?_eq_getElem hj'] at this
              rw [List.getD_eq_getElem?_getD, List.getElem?_eq_getElem hj]
              exact Option.some.inj this
            have b2 : u[j] = u.getD j false := by
              rw [List.getD_eq_getElem?_getD, List.getElem?_eq_getElem hju]; rfl
            have next : spec_l13Both.L0 (cl k) k a and ((u, ()), ()) q ((j + 1 : Nat) : Int) (acc.set j (opB and (t.getD j false) (u.getD j false))) = some ((mkDia a.1.toNat (bothT and t u), true, ()), ()) := by
              refine ih q (j + 1) _ (by omega) (by omega) (by omega) (by rw [List.length_set, ha]) (fun i hi => ?_) (fun i hi => ?_)
              · rw [List.getElem?_set]
                by_cases e : j = i
                · subst e; rw [if_pos rfl, if_pos hj']
                · rw [if_neg e]; exact a1 i (by omega)
              · rw [List.getElem?_set, if_neg (by omega)]; exact a2 i (by omega)
            simp only [spec_l13Both.L0, spec_l13Both.step0, dlt hj', cond_true, dle0, Int.toNat_natCast, decide_eq_true hj', decide_eq_true hju, Bool.and_self, lgn hj', lgn hju, Option.bind_some, ws hj' (show acc.length ≤ 9223372036854775807 by omega), b1, b2]
            generalize t.getD j false = x at *
            generalize u.getD j false = y at *
            cases and <;> cases x <;> exact next
        refine Ans.of hF ((h1.and (h2.and (h3.and (h4.and (h5.and (Ev.ge 1025)))))).mono fun k ⟨h1, h2, h3, h4, h5, hk⟩ => ?_)
        simp only [spec_l13Both.F, spec_l13Both.Fm, h1, h2, h3, h4, Option.bind_some, Bool.not_true, cond_false]
        rw [bne_eq_false_iff_eq.2 hv, cond_false]
        exact key k h5 t.length k 0 t rfl (by omega) (Nat.zero_le _) rfl (fun i hi => by omega) (fun i hi => rfl)
      · rw [if_neg fun h => hv h.2.2]
        refine Ans.of hF ((h1.and h2).mono fun k ⟨h1, h2⟩ => ?_)
        simp only [spec_l13Both.F, spec_l13Both.Fm, h1, h2, Option.bind_some, Bool.not_true, cond_false]
        rw [bne_iff_ne.2 hv]; rfl

theorem spec_OrDia_ans (a b : Dia) (hl : a.2.2.1.length ≤ 1048576) (hl2 : b.2.2.1.length ≤ 1048576) : Ans 68 s_spec_OrDia (a, b, ()) (both false a b, ()) := by
  refine Ans.of (fun k => spec_OrDia.F_eq (cl k) k a b) ((l13Both_ans a b false hl hl2).mono fun k h => ?_)
  simp only [spec_OrDia.F, spec_OrDia.Fm, h, Option.bind_some]
theorem spec_AndDia_ans (a b : Dia) (hl : a.2.2.1.length ≤ 1048576) (hl2 : b.2.2.1.length ≤ 1048576) : Ans 67 s_spec_AndDia (a, b, ()) (both true a b, ()) := by
  refine Ans.of (fun k => spec_AndDia.F_eq (cl k) k a b) ((l13Both_ans a b true hl hl2).mono fun k h => ?_)
  simp only [spec_AndDia.F, spec_AndDia.Fm, h, Option.bind_some]

/-! ### SomeDia -/
def someT (m v : Nat) (ks : List Kn) (root : Int) : List Bool := (List.range (2 ^ m)).map fun n => walk ks (bitV m v false n) ks.length root || walk ks (bitV m v true n) ks.length root
theorem someT_len (m v : Nat) (ks : List Kn) (root : Int) : (someT m v ks root).length = 2 ^ m := by simp [someT]
def someDia (d : Dia) (v : Int) : Dia × (Bool × Unit) := if diaOk d ∧ 0 ≤ v ∧ v < d.1 then (mkDia d.1.toNat (someT d.1.toNat v.toNat d.2.2.1 d.2.1), true, ()) else (zeroDia, false, ())
theorem someDia_len (d : Dia) (v : Int) : (someDia d v).1.2.2.1.length ≤ 1023 := by
  unfold someDia
  split
  · rename_i h
    exact mkDia_len _ _ (diaOk_m h.1).1
  · exact Nat.zero_le _
theorem some_both (d : Dia) (v : Int) (h : diaOk d ∧ 0 ≤ v ∧ v < d.1) : both false (fixDia d v false).1 (fixDia d v true).1 = someDia d v := by
  have ⟨m1, m2⟩ := diaOk_m h.1
  unfold fixDia someDia
  rw [if_pos h, if_pos h, if_pos h]
  generalize d.1.toNat = m at *
  have a1 := mkDia_ok m (tabV m v.toNat false d.2.2.1 d.2.1) m1 (tabV_len _ _ _ _ _)
  have a2 := mkDia_ok m (tabV m v.toNat true d.2.2.1 d.2.1) m1 (tabV_len _ _ _ _ _)
  unfold both
  dsimp only
  rw [if_pos ⟨a1.1, a2.1, rfl⟩]
  have e : ∀ t : List Bool, (mkDia m t).1.toNat = m := fun t => Int.toNat_natCast m
  rw [e, e, a1.2, a2.2]
  have e2 : bothT false (tabV m v.toNat false d.2.2.1 d.2.1) (tabV m v.toNat true d.2.2.1 d.2.1) = someT m v.toNat d.2.2.1 d.2.1 := by
    unfold bothT someT
    rw [tabV_len]
    refine List.map_congr_left fun i hi => ?_
    have hi := List.mem_range.1 hi
    simp [opB, tabV, hi]
  rw [e2]
theorem spec_SomeDia_ans (d : Dia) (hl : d.2.2.1.length ≤ 1048576) (v : Int) : Ans 74 s_spec_SomeDia (d, v, ()) (someDia d v, ()) := by
  have hF := fun k => spec_SomeDia.F_eq (cl k) k d v
  have h1 := spec_FixDia_ans d hl v false
  have h2 := spec_FixDia_ans d hl v true
  by_cases h : diaOk d ∧ 0 ≤ v ∧ v < d.1
  · have h3 := spec_OrDia_ans (fixDia d v false).1 (fixDia d v true).1 (by have := fixDia_len d v false; omega) (by have := fixDia_len d v true; omega)
    rw [some_both d v h] at h3
    have e1 : (fixDia d v false).2.1 = true := by unfold fixDia; rw [if_pos h]
    generalize fixDia d v false = x at *
    generalize fixDia d v true = y at *
    refine Ans.of hF ((h1.and (h2.and h3)).mono fun k ⟨h1, h2, h3⟩ => ?_)
    have h3 : cl k 68 s_spec_OrDia ((x.1.1, x.1.2.1, x.1.2.2.1, x.1.2.2.2), (y.1.1, y.1.2.1, y.1.2.2.1, y.1.2.2.2), ()) = some (someDia d v, ()) := h3
    simp only [spec_SomeDia.F, spec_SomeDia.Fm, h1, h2, h3, Option.bind_some, e1, Bool.not_true, cond_false]
  · have e1 : (fixDia d v false).2.1 = false := by unfold fixDia; rw [if_neg h]
    refine Ans.of hF ((h1.and h2).mono fun k ⟨h1, h2⟩ => ?_)
    simp only [spec_SomeDia.F, spec_SomeDia.Fm, h1, h2, Option.bind_some, e1, Bool.not_false, cond_true]
    unfold someDia
    rw [if_neg h]; rfl

def SomeK (k : Nat) : Prop := ∀ a b : Bool, cl k 122 s_impl_SomeDia_1 (a, b, ()) = some ((a || b, ()), ())
theorem some1_ev : Ev SomeK := Ev.succ fun k a b => by
  rw [cl_succ, impl_SomeDia_1.F_eq (cl k) k a b]; cases a <;> rfl
theorem impl_SomeDia_ans (d : Dia) (hl : d.2.2.1.length ≤ 1048576) (v : Int) : Ans 64 s_impl_SomeDia (d, v, ()) (someDia d v, ()) := by
  suffices hh : Ans 12300118 s_impl_withoutBit__impl_SomeDia_1 (d, v, (), ()) (someDia d v, ()) by
    refine Ans.of (fun k => impl_SomeDia.F_eq (cl k) k d v) (hh.mono fun k h => ?_)
    simp only [impl_SomeDia.F, impl_SomeDia.Fm, h, Option.bind_some]
  have hF := fun k => impl_withoutBit__impl_SomeDia_1.F_eq (cl k) k d v ()
  have h1 := impl_DiaOk_ans d hl
  unfold someDia
  cases hd : diaOk d with
  | false =>
    rw [hd] at h1
    rw [if_neg (by simp)]
    refine Ans.of hF (h1.mono fun k h1 => ?_)
    simp only [impl_withoutBit__impl_SomeDia_1.F, impl_withoutBit__impl_SomeDia_1.Fm, h1, Option.bind_some, Bool.not_false, cond_true]
    rfl
  | true =>
    rw [hd] at h1
    have ⟨m1, m2⟩ := diaOk_m hd
    by_cases hv : 0 ≤ v ∧ v < d.1
    · rw [if_pos ⟨rfl, hv⟩]
      have ⟨g, _⟩ := diaOk_at hd
      have hf := goodB_falls g
      have h2 := diaOk_tabI hd hl
      obtain ⟨i, rfl⟩ : ∃ i : Nat, v = (i : Int) := ⟨v.toNat, by omega⟩
      rw [Int.toNat_natCast]
      generalize hm : d.1.toNat = m at *
      have hp := pow10 m1
      have him : i < m := by omega
      have ht := tab_len m d.2.2.1 d.2.1
      have h3 := diaOf_ans m (someT m i d.2.2.1 d.2.1) m1 (someT_len _ _ _ _)
      have key : ∀ (k : Nat), SomeK k → cl k 109 s_impl_diaOf ((m : Int), someT m i d.2.2.1 d.2.1, ()) = some ((mkDia m (someT m i d.2.2.1 d.2.1), ()), ()) → ∀ (e q j : Nat) (acc : List Bool), acc.length = 2 ^ m → (∀ n, n < j → acc[n]? = some (walk d.2.2.1 (bitV m i false n) d.2.2.1.length d.2.1 || walk d.2.2.1 (bitV m i true n) d.2.2.1.length d.2.1)) → 2 ^ m - j = e → j ≤ 2 ^ m → e < q →
          impl_withoutBit__impl_SomeDia_1.L0 (cl k) k d ((tab m d.2.2.1 d.2.1, ()), ()) ((((2 ^ (m - 1 - i) : Nat) : Int), ()), ()) q (j : Int) acc = some ((mkDia m (someT m i d.2.2.1 d.2.1), true, ()), ()) := by
        intro k hk hmk e
        induction e with
        | zero =>
          intro q j acc ha h he hj hq
          obtain ⟨q, rfl⟩ : ∃ p, q = p + 1 := ⟨q - 1, by omega⟩
          have e := list_of (acc := acc) fun n hn => h n (by omega)
          rw [ha] at e
          simp only [impl_withoutBit__impl_SomeDia_1.L0, impl_withoutBit__impl_SomeDia_1.step0, dnlt (show (tab m d.2.2.1 d.2.1).length ≤ j by omega), cond_false, m2]
          rw [e, show cl k 109 s_impl_diaOf ((m : Int), ((List.range (2 ^ m)).map fun n => walk d.2.2.1 (bitV m i false n) d.2.2.1.length d.2.1 || walk d.2.2.1 (bitV m i true n) d.2.2.1.length d.2.1), ()) = _ from hmk]
          rfl
        | succ e ih =>
          intro q j acc ha h he hj hq
          obtain ⟨q, rfl⟩ : ∃ p, q = p + 1 := ⟨q - 1, by omega⟩
          have hj : j < 2 ^ m := by omega
          have hj' : j < acc.length := by omega
          obtain ⟨l1, l2⟩ := tab_low (root := d.2.1) m1 him hj hf
          obtain ⟨u1, u2⟩ := tab_high (root := d.2.1) him hj hf
          simp only [impl_withoutBit__impl_SomeDia_1.L0, impl_withoutBit__impl_SomeDia_1.step0, dlt (show j < (tab m d.2.2.1 d.2.1).length by omega), cond_true, bitsI_clr (m - 1 - i) (show j < 1024 by omega), bitsI_or (show j < 1024 by omega) (show m - 1 - i < 10 by omega), dle0, Int.toNat_natCast, decide_eq_true l1, decide_eq_true u1, decide_eq_true hj', Bool.and_self, l2, u2, lgn hj', Option.bind_some, hk _ _, ws hj (show 2 ^ m ≤ 9223372036854775807 by omega)]
          refine ih q (j + 1) _ (by rw [List.length_set, ha]) (fun n hn => ?_) (by omega) (by omega) (by omega)
          rw [List.getElem?_set]
          by_cases e : j = n
          · subst e
            rw [if_pos rfl, if_pos hj']
          · rw [if_neg e]; exact h n (by omega)
      refine Ans.of hF ((h1.and (h2.and (h3.and (some1_ev.and (weight_ev.and (Ev.ge (2 ^ m + 1))))))).mono fun k ⟨h1, h2, h3, hk, hw, hge⟩ => ?_)
      simp only [impl_withoutBit__impl_SomeDia_1.F, impl_withoutBit__impl_SomeDia_1.Fm, h1, Option.bind_some, Bool.not_true, cond_false, h2]
      rw [decide_eq_false (by omega), decide_eq_false (by omega), cond_false, cond_false, m2, hw m i m1 him, Option.bind_some, decide_true, Bool.true_and, decide_eq_true (show (0 : Int) ≤ ((tab m d.2.2.1 d.2.1).length : Int) by omega), decide_eq_true (show ((tab m d.2.2.1 d.2.1).length : Int) * (ti4.bytes : Int) ≤ 281474976710656 by show ((tab m d.2.2.1 d.2.1).length : Int) * ((1 : Nat) : Int) ≤ 281474976710656; omega), Bool.and_self, cond_true]
      exact key k hk h3 (2 ^ m) k 0 _ (by rw [List.length_replicate, Int.toNat_natCast, ht]) (fun n hn => by omega) rfl (Nat.zero_le _) hge
    · rw [if_neg fun h => hv h.2]
      refine Ans.of hF (h1.mono fun k h1 => ?_)
      simp only [impl_withoutBit__impl_SomeDia_1.F, impl_withoutBit__impl_SomeDia_1.Fm, h1, Option.bind_some, Bool.not_true, cond_false]
      by_cases h0 : v < 0
      · rw [decide_eq_true h0]; rfl
      · rw [decide_eq_false h0, cond_false, decide_eq_true (by omega)]; rfl

end Go.Proofs.Ytcmgjdmhemfecaa.Pf
