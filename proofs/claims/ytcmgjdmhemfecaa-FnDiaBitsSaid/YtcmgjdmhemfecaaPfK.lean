/- Dias: FixDia. No condition. -/
import Derived.Test.YtcmgjdmhemfecaaPfJ
namespace Go.Proofs.Ytcmgjdmhemfecaa.Pf
open Go Go.Pv

/-! ### A bit made false or true -/
def clr (n j : Nat) : Nat := (BitVec.ofNat 64 n &&& ~~~BitVec.ofNat 64 (2 ^ j)).toNat
theorem clr_le {n : Nat} (j : Nat) (h : n ≤ 1048576) : clr n j ≤ n := by
  unfold clr
  rw [BitVec.toNat_and, BitVec.toNat_ofNat, Nat.mod_eq_of_lt (show n < 2 ^ 64 by omega)]
  exact Nat.and_le_left
theorem clr_bit {n j i : Nat} (hj : j < 64) (hi : i < 64) : (clr n j).testBit i = if i = j then false else n.testBit i := by
  unfold clr
  rw [BitVec.testBit_toNat, BitVec.getLsbD_and, BitVec.getLsbD_not, BitVec.getLsbD_ofNat, BitVec.getLsbD_ofNat, Nat.testBit_two_pow, decide_eq_true hi, Bool.true_and, Bool.true_and, Bool.true_and]
  by_cases e : i = j
  · rw [if_pos e, decide_eq_true e.symm]; simp
  · rw [if_neg e, decide_eq_false fun h => e h.symm]; simp
theorem set_bit (n j i : Nat) : (n ||| 2 ^ j).testBit i = if i = j then true else n.testBit i := by
  rw [Nat.testBit_or, Nat.testBit_two_pow]
  by_cases e : i = j
  · rw [if_pos e, decide_eq_true e.symm]; simp
  · rw [if_neg e, decide_eq_false fun h => e h.symm]; simp
theorem bitsI_or {n j : Nat} (hn : n < 1024) (hj : j < 10) : bitsI .or .i64 (n : Int) ((2 ^ j : Nat) : Int) = ((n ||| 2 ^ j : Nat) : Int) := by
  have h1 : 2 ^ j < 2 ^ 10 := Nat.pow_lt_pow_right (by omega) hj
  have h3 : n ||| 2 ^ j < 2 ^ 10 := Nat.or_lt_two_pow hn h1
  unfold bitsI
  have h2 : (BitVec.ofInt IntKind.i64.bits (n : Int) ||| BitVec.ofInt IntKind.i64.bits ((2 ^ j : Nat) : Int)).toNat = n ||| 2 ^ j := by
    rw [BitVec.toNat_or, BitVec.ofInt_natCast, BitVec.ofInt_natCast, BitVec.toNat_ofNat, BitVec.toNat_ofNat]
    rw [show IntKind.i64.bits = 64 from rfl, Nat.mod_eq_of_lt (show n < 2 ^ 64 by omega), Nat.mod_eq_of_lt (show 2 ^ j < 2 ^ 64 by omega)]
  simp only [h2]
  exact w64n (by omega)
theorem bitsI_clr {n : Nat} (j : Nat) (hn : n < 1024) : bitsI .andNot .i64 (n : Int) ((2 ^ j : Nat) : Int) = ((clr n j : Nat) : Int) := by
  have h3 := clr_le j (show n ≤ 1048576 by omega)
  unfold bitsI
  have h2 : (BitVec.ofInt IntKind.i64.bits (n : Int) &&& ~~~BitVec.ofInt IntKind.i64.bits ((2 ^ j : Nat) : Int)).toNat = clr n j := by
    rw [BitVec.ofInt_natCast, BitVec.ofInt_natCast]; rfl
  simp only [h2]
  exact w64n (by omega)

def bitV (m v : Nat) (yes : Bool) (n w : Nat) : Bool := if w = v then yes else bitN m n w
theorem walk_congr {m : Nat} {ks : List Kn} (hf : Falls m ks) {f g : Nat → Bool} (h : ∀ w, w < m → f w = g w) : ∀ (n : Nat) (r : Int), walk ks f n r = walk ks g n r
  | 0, r => rfl
  | n + 1, r => by
    unfold walk
    split
    · rfl
    · cases e : ks[(r - 2).toNat]? with
      | none => rfl
      | some k =>
        obtain ⟨hi, e2⟩ := List.getElem?_eq_some_iff.1 e
        have hk := (hf _ hi).1
        rw [e2] at hk
        show walk ks f n (if f k.1.toNat then k.2.2.1 else k.2.1) = walk ks g n (if g k.1.toNat then k.2.2.1 else k.2.1)
        rw [h k.1.toNat (by omega)]
        exact walk_congr hf h n _
def tabV (m v : Nat) (yes : Bool) (ks : List Kn) (root : Int) : List Bool := (List.range (2 ^ m)).map fun n => walk ks (bitV m v yes n) ks.length root
theorem tabV_len (m v : Nat) (yes : Bool) (ks : List Kn) (root : Int) : (tabV m v yes ks root).length = 2 ^ m := by simp [tabV]
def fixDia (d : Dia) (v : Int) (yes : Bool) : Dia × (Bool × Unit) := if diaOk d ∧ 0 ≤ v ∧ v < d.1 then (mkDia d.1.toNat (tabV d.1.toNat v.toNat yes d.2.2.1 d.2.1), true, ()) else (zeroDia, false, ())

theorem tab_low {m v n : Nat} {ks : List Kn} {root : Int} (hm : m ≤ 10) (hv : v < m) (hn : n < 2 ^ m) (hf : Falls m ks) : clr n (m - 1 - v) < (tab m ks root).length ∧ lget (tab m ks root) (clr n (m - 1 - v)) = some (walk ks (bitV m v false n) ks.length root) := by
  have hp := pow10 hm
  have h1 := clr_le (m - 1 - v) (show n ≤ 1048576 by omega)
  have h2 : clr n (m - 1 - v) < (tab m ks root).length := by rw [tab_len]; omega
  refine ⟨h2, ?_⟩
  rw [lgn h2]
  have e : (tab m ks root)[clr n (m - 1 - v)] = walk ks (bitN m (clr n (m - 1 - v))) ks.length root := by simp [tab]
  rw [e, walk_congr hf (g := bitV m v false n)]
  intro w hw
  unfold bitV bitN
  rw [clr_bit (by omega) (by omega)]
  by_cases e : w = v
  · subst e; rw [if_pos rfl, if_pos rfl]
  · rw [if_neg e, if_neg (by omega)]
theorem tab_high {m v n : Nat} {ks : List Kn} {root : Int} (hv : v < m) (hn : n < 2 ^ m) (hf : Falls m ks) : (n ||| 2 ^ (m - 1 - v)) < (tab m ks root).length ∧ lget (tab m ks root) (n ||| 2 ^ (m - 1 - v)) = some (walk ks (bitV m v true n) ks.length root) := by
  have h1 : n ||| 2 ^ (m - 1 - v) < 2 ^ m := Nat.or_lt_two_pow hn (Nat.pow_lt_pow_right (by omega) (by omega))
  have h2 : n ||| 2 ^ (m - 1 - v) < (tab m ks root).length := by rw [tab_len]; omega
  refine ⟨h2, ?_⟩
  rw [lgn h2]
  have e : (tab m ks root)[n ||| 2 ^ (m - 1 - v)] = walk ks (bitN m (n ||| 2 ^ (m - 1 - v))) ks.length root := by simp [tab]
  rw [e, walk_congr hf (g := bitV m v true n)]
  intro w hw
  unfold bitV bitN
  rw [set_bit]
  by_cases e : w = v
  · subst e; rw [if_pos rfl, if_pos rfl]
  · rw [if_neg e, if_neg (by omega)]

theorem spec_FixDia_ans (d : Dia) (hl : d.2.2.1.length ≤ 1048576) (v : Int) (yes : Bool) : Ans 69 s_spec_FixDia (d, v, yes, ()) (fixDia d v yes, ()) := by
  have hF := fun k => spec_FixDia.F_eq (cl k) k d v yes
  have h1 := spec_DiaOk_ans d hl
  unfold fixDia
  cases hd : diaOk d with
  | false =>
    rw [hd] at h1
    rw [if_neg (by simp)]
    refine Ans.of hF (h1.mono fun k h1 => ?_)
    simp only [spec_FixDia.F, spec_FixDia.Fm, h1, Option.bind_some, Bool.not_false, cond_true]
    rfl
  | true =>
    rw [hd] at h1
    have ⟨m1, m2⟩ := diaOk_m hd
    have hw : IntKind.i64.wrap (d.1 - 1) = d.1 - 1 := w64 (by omega) (by omega)
    by_cases hv : 0 ≤ v ∧ v < d.1
    · rw [if_pos ⟨rfl, hv⟩]
      have ⟨g, _⟩ := diaOk_at hd
      have ⟨g0, g1, g2, g3⟩ := goodB_at g
      have hf := goodB_falls g
      obtain ⟨i, rfl⟩ : ∃ i : Nat, v = (i : Int) := ⟨v.toNat, by omega⟩
      rw [Int.toNat_natCast]
      generalize hm : d.1.toNat = m at *
      have hp := pow10 m1
      have him : i < m := by omega
      have h3 := l13Make_ans m (tabV m i yes d.2.2.1 d.2.1) m1 (tabV_len _ _ _ _ _)
      have key : ∀ (e k q j : Nat), cl k 105 s_spec_l13Make ((m : Int), tabV m i yes d.2.2.1 d.2.1, ()) = some ((mkDia m (tabV m i yes d.2.2.1 d.2.1), ()), ()) → cl k 124 s_spec_l13Size ((m : Int), ()) = some ((((2 ^ m : Nat) : Int), ()), ()) → (∀ n : Nat, n < 2 ^ m → cl k 125 s_spec_l13Bits ((m : Int), (n : Int), ()) = some ((bitsN m n, ()), ())) →
          (∀ n : Nat, n < 2 ^ m → cl k 120 s_spec_l13Yes (d, d.2.1, (bitsN m n).set i yes, ()) = some ((walk d.2.2.1 (bitV m i yes n) d.2.2.1.length d.2.1, ()), ())) → 2 ^ m - j = e → j ≤ 2 ^ m → e < q →
          spec_FixDia.L0 (cl k) k d (i : Int) yes q (j : Int) ((List.range j).map fun n => walk d.2.2.1 (bitV m i yes n) d.2.2.1.length d.2.1) = some ((mkDia m (tabV m i yes d.2.2.1 d.2.1), true, ()), ()) := by
        intro e
        induction e with
        | zero =>
          intro k q j hmk hs hb hy he hj hq
          obtain ⟨q, rfl⟩ : ∃ p, q = p + 1 := ⟨q - 1, by omega⟩
          have hj : j = 2 ^ m := by omega
          subst hj
          simp only [spec_FixDia.L0, spec_FixDia.step0, m2, hs, Option.bind_some, dnlt (Nat.le_refl _), cond_false]
          rw [show cl k 105 s_spec_l13Make ((m : Int), ((List.range (2 ^ m)).map fun n => walk d.2.2.1 (bitV m i yes n) d.2.2.1.length d.2.1), ()) = _ from hmk]
          rfl
        | succ e ih =>
          intro k q j hmk hs hb hy he hj hq
          obtain ⟨q, rfl⟩ : ∃ p, q = p + 1 := ⟨q - 1, by omega⟩
          have hj : j < 2 ^ m := by omega
          have hn := ih k q (j + 1) hmk hs hb hy (by omega) (by omega) (by omega)
          rw [List.range_succ, List.map_append] at hn
          have hy' : cl k 120 s_spec_l13Yes ((d.1, d.2.1, d.2.2.1, ()), d.2.1, (bitsN m j).set i yes, ()) = some ((walk d.2.2.1 (bitV m i yes j) d.2.2.1.length d.2.1, ()), ()) := hy j hj
          rw [m2] at hy'
          have hbl : i < (bitsN m j).length := by simp [bitsN, him]
          simp only [spec_FixDia.L0, spec_FixDia.step0, m2, hs, Option.bind_some, dlt hj, cond_true, hb j hj, dle0, Int.toNat_natCast, decide_eq_true hbl, Bool.and_self, lgn hbl, hy', List.length_map, List.length_range, List.length_cons, List.length_nil, ws hj (show 2 ^ m ≤ 9223372036854775807 by omega)]
          rw [decide_eq_true (by show (j + (0 + 1)) * 1 ≤ _; omega), cond_true]
          exact hn
      refine Ans.of hF ((h1.and (l1In_ev.and (h3.and ((l13Size_ans m m1).and ((Ev.forall_lt (n := 2 ^ m) fun n hn => l13Bits_ans m n m1 (by omega)).and ((Ev.forall_lt (n := 2 ^ m) fun n hn => l13Yes_ans d m (bitV m i yes n) ((bitsN m n).set i yes) hl hf (fun w hw => by
        rw [List.getElem?_set]
        unfold bitV
        by_cases e : i = w
        · subst e; rw [if_pos rfl, if_pos rfl, if_pos (by simp [bitsN, him])]
        · rw [if_neg e, if_neg fun h => e h.symm]; simp [bitsN, hw]) d.2.1 g2.1 g2.2).and (Ev.ge (2 ^ m + 1)))))))).mono fun k ⟨h1, hin, h3, a, b, c, hk⟩ => ?_)
      simp only [spec_FixDia.F, spec_FixDia.Fm, h1, Option.bind_some, Bool.not_true, cond_false, hw, hin (i : Int) 0 (d.1 - 1)]
      rw [decide_eq_true (by omega), decide_eq_true (by omega)]
      exact key (2 ^ m) k k 0 h3 a b c rfl (Nat.zero_le _) hk
    · rw [if_neg fun h => hv h.2]
      refine Ans.of hF ((h1.and l1In_ev).mono fun k ⟨h1, hin⟩ => ?_)
      simp only [spec_FixDia.F, spec_FixDia.Fm, h1, Option.bind_some, Bool.not_true, cond_false, hw, hin v 0 (d.1 - 1)]
      have : (decide (0 ≤ v) && decide (v ≤ d.1 - 1)) = false := by
        by_cases h0 : 0 ≤ v
        · rw [decide_eq_false (show ¬ v ≤ d.1 - 1 by omega), Bool.and_false]
        · rw [decide_eq_false h0, Bool.false_and]
      rw [this]; rfl

def FixK (k : Nat) : Prop := ∀ a b c : Bool, cl k 119 s_impl_FixDia_1 (a, b, c, ()) = some ((bif c then b else a, ()), ())
theorem fix1_ev : Ev FixK := Ev.succ fun k a b c => by
  rw [cl_succ, impl_FixDia_1.F_eq (cl k) k a b c]; cases c <;> rfl

theorem impl_FixDia_ans (d : Dia) (hl : d.2.2.1.length ≤ 1048576) (v : Int) (yes : Bool) : Ans 60 s_impl_FixDia (d, v, yes, ()) (fixDia d v yes, ()) := by
  suffices hh : Ans 12000118 s_impl_withoutBit__impl_FixDia_1 (d, v, (yes, ()), ()) (fixDia d v yes, ()) by
    refine Ans.of (fun k => impl_FixDia.F_eq (cl k) k d v yes) (hh.mono fun k h => ?_)
    simp only [impl_FixDia.F, impl_FixDia.Fm, h, Option.bind_some]
  have hF := fun k => impl_withoutBit__impl_FixDia_1.F_eq (cl k) k d v (yes, ())
  have h1 := impl_DiaOk_ans d hl
  unfold fixDia
  cases hd : diaOk d with
  | false =>
    rw [hd] at h1
    rw [if_neg (by simp)]
    refine Ans.of hF (h1.mono fun k h1 => ?_)
    simp only [impl_withoutBit__impl_FixDia_1.F, impl_withoutBit__impl_FixDia_1.Fm, h1, Option.bind_some, Bool.not_false, cond_true]
    rfl
  | true =>
    rw [hd] at h1
    have ⟨m1, m2⟩ := diaOk_m hd
    by_cases hv : 0 ≤ v ∧ v < d.1
    · rw [if_pos ⟨rfl, hv⟩]
      have ⟨g, _⟩ := diaOk_at hd
      have hf := goodB_falls g
      have h2 := diaOk_tabI hd hl
      obtain ⟨i, rfl⟩ : ∃ i : Nat, v = (i : Int) := ⟨v.toNat, by omega⟩
      rw [Int.toNat_natCast]
      generalize hm : d.1.toNat = m at *
      have hp := pow10 m1
      have him : i < m := by omega
      have ht := tab_len m d.2.2.1 d.2.1
      have h3 := diaOf_ans m (tabV m i yes d.2.2.1 d.2.1) m1 (tabV_len _ _ _ _ _)
      have key : ∀ (k : Nat), FixK k → cl k 109 s_impl_diaOf ((m : Int), tabV m i yes d.2.2.1 d.2.1, ()) = some ((mkDia m (tabV m i yes d.2.2.1 d.2.1), ()), ()) → ∀ (e q j : Nat) (acc : List Bool), acc.length = 2 ^ m → (∀ n, n < j → acc[n]? = some (walk d.2.2.1 (bitV m i yes n) d.2.2.1.length d.2.1)) → 2 ^ m - j = e → j ≤ 2 ^ m → e < q →
          impl_withoutBit__impl_FixDia_1.L0 (cl k) k d (yes, ()) ((tab m d.2.2.1 d.2.1, ()), ()) ((((2 ^ (m - 1 - i) : Nat) : Int), ()), ()) q (j : Int) acc = some ((mkDia m (tabV m i yes d.2.2.1 d.2.1), true, ()), ()) := by
        intro k hk hmk e
        induction e with
        | zero =>
          intro q j acc ha h he hj hq
          obtain ⟨q, rfl⟩ : ∃ p, q = p + 1 := ⟨q - 1, by omega⟩
          have e := list_of (acc := acc) fun n hn => h n (by omega)
          rw [ha] at e
          simp only [impl_withoutBit__impl_FixDia_1.L0, impl_withoutBit__impl_FixDia_1.step0, dnlt (show (tab m d.2.2.1 d.2.1).length ≤ j by omega), cond_false, m2]
          rw [e, show cl k 109 s_impl_diaOf ((m : Int), ((List.range (2 ^ m)).map fun n => walk d.2.2.1 (bitV m i yes n) d.2.2.1.length d.2.1), ()) = _ from hmk]
          rfl
        | succ e ih =>
          intro q j acc ha h he hj hq
          obtain ⟨q, rfl⟩ : ∃ p, q = p + 1 := ⟨q - 1, by omega⟩
          have hj : j < 2 ^ m := by omega
          have hj' : j < acc.length := by omega
          obtain ⟨l1, l2⟩ := tab_low (root := d.2.1) m1 him hj hf
          obtain ⟨u1, u2⟩ := tab_high (root := d.2.1) him hj hf
          simp only [impl_withoutBit__impl_FixDia_1.L0, impl_withoutBit__impl_FixDia_1.step0, dlt (show j < (tab m d.2.2.1 d.2.1).length by omega), cond_true, bitsI_clr (m - 1 - i) (show j < 1024 by omega), bitsI_or (show j < 1024 by omega) (show m - 1 - i < 10 by omega), dle0, Int.toNat_natCast, decide_eq_true l1, decide_eq_true u1, decide_eq_true hj', Bool.and_self, l2, u2, lgn hj', Option.bind_some, hk _ _ yes, ws hj (show 2 ^ m ≤ 9223372036854775807 by omega)]
          refine ih q (j + 1) _ (by rw [List.length_set, ha]) (fun n hn => ?_) (by omega) (by omega) (by omega)
          rw [List.getElem?_set]
          by_cases e : j = n
          · subst e
            rw [if_pos rfl, if_pos hj']
            cases yes <;> rfl
          · rw [if_neg e]; exact h n (by omega)
      refine Ans.of hF ((h1.and (h2.and (h3.and (fix1_ev.and (weight_ev.and (Ev.ge (2 ^ m + 1))))))).mono fun k ⟨h1, h2, h3, hk, hw, hge⟩ => ?_)
      simp only [impl_withoutBit__impl_FixDia_1.F, impl_withoutBit__impl_FixDia_1.Fm, h1, Option.bind_some, Bool.not_true, cond_false, h2]
      rw [decide_eq_false (by omega), decide_eq_false (by omega), cond_false, cond_false, m2, hw m i m1 him, Option.bind_some, decide_true, Bool.true_and, decide_eq_true (show (0 : Int) ≤ ((tab m d.2.2.1 d.2.1).length : Int) by omega), decide_eq_true (show ((tab m d.2.2.1 d.2.1).length : Int) * (ti4.bytes : Int) ≤ 281474976710656 by show ((tab m d.2.2.1 d.2.1).length : Int) * ((1 : Nat) : Int) ≤ 281474976710656; omega), Bool.and_self, cond_true]
      exact key k hk h3 (2 ^ m) k 0 _ (by rw [List.length_replicate, Int.toNat_natCast, ht]) (fun n hn => by omega) rfl (Nat.zero_le _) hge
    · rw [if_neg fun h => hv h.2]
      refine Ans.of hF (h1.mono fun k h1 => ?_)
      simp only [impl_withoutBit__impl_FixDia_1.F, impl_withoutBit__impl_FixDia_1.Fm, h1, Option.bind_some, Bool.not_true, cond_false]
      by_cases h0 : v < 0
      · rw [decide_eq_true h0]; rfl
      · rw [decide_eq_false h0, cond_false, decide_eq_true (by omega)]; rfl
theorem fixDia_len (d : Dia) (v : Int) (yes : Bool) : (fixDia d v yes).1.2.2.1.length ≤ 1023 := by
  unfold fixDia
  split
  · rename_i h
    exact mkDia_len _ _ (diaOk_m h.1).1
  · exact Nat.zero_le _

end Go.Proofs.Ytcmgjdmhemfecaa.Pf
