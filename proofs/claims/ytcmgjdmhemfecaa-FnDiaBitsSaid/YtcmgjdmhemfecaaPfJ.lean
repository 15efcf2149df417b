/- Dias: marks, YesIn, NotDia. No condition. -/
import Derived.Test.YtcmgjdmhemfecaaPfI
import Derived.Test.YtcmgjdmhemfecaaPfT3
namespace Go.Proofs.Ytcmgjdmhemfecaa.Pf
open Go Go.Pv

/-! ### Marks -/
def mK (j : Nat) : Kn := (1 + 3 * (j : Int), 2 + 3 * (j : Int), 3 + 3 * (j : Int), ())
def mKs (m : Nat) : List Kn := (List.range m).map mK
theorem mKs_get {m j : Nat} (h : j < (mKs m).length) : (mKs m)[j] = mK j := by simp [mKs]
theorem mKs_len (m : Nat) : (mKs m).length = m := by simp [mKs]
theorem w3 {j m : Nat} (hm : m ≤ 1048576) (hj : j < m) : IntKind.i64.wrap (1 + 3 * (j : Int) + 1) = 2 + 3 * (j : Int) ∧ IntKind.i64.wrap (2 + 3 * (j : Int) + 1) = 3 + 3 * (j : Int) ∧ IntKind.i64.wrap (3 + 3 * (j : Int) + 1) = 1 + 3 * ((j + 1 : Nat) : Int) := by
  refine ⟨?_, ?_, ?_⟩ <;> (rw [w64 (by omega) (by omega)]; omega)
theorem lgset {α : Type} {xs : List α} {j : Nat} {x : α} (h : j < xs.length) : lget (xs.set j x) j = some x := by
  show (xs.set j x)[j]? = some x
  rw [List.getElem?_set, if_pos rfl, if_pos h]
theorem markKnotS_ans (a : List Kn) (ha : a.length ≤ 1048576) : Ans 90 s_laws_markKnotS (a, 1, ()) ((1 + 3 * (a.length : Int), ()), mKs a.length, ()) := by
  refine Ans.of (fun k => laws_markKnotS.F_eq (cl k) k a 1) ?_
  have key : ∀ (d k q j : Nat) (acc : List Kn), acc.length - j = d → d < q → j ≤ acc.length → acc.length ≤ 1048576 → (∀ i, i < j → acc[i]? = some (mK i)) → laws_markKnotS.L0 (cl k) k q (1 + 3 * (j : Int)) (j : Int) acc = some ((1 + 3 * (acc.length : Int), ()), mKs acc.length, ()) := by
    intro d
    induction d with
    | zero =>
      intro k q j acc hd hq hj hl hacc
      obtain ⟨q, rfl⟩ : ∃ m, q = m + 1 := ⟨q - 1, by omega⟩
      have e : j = acc.length := by omega
      simp only [laws_markKnotS.L0, laws_markKnotS.step0, dnlt (show acc.length ≤ j by omega), cond_false]
      have e2 := list_of (f := mK) (acc := acc) fun i hi => hacc i (by omega)
      unfold mKs
      rw [← e2, e]
    | succ d ih =>
      intro k q j acc hd hq hj hl hacc
      obtain ⟨q, rfl⟩ : ∃ m, q = m + 1 := ⟨q - 1, by omega⟩
      have hj : j < acc.length := by omega
      obtain ⟨w1, w2, w3⟩ := w3 hl hj
      have hset := ih k q (j + 1) (acc.set j (mK j)) (by simp; omega) (by omega) (by simp; omega) (by simp; omega) (fun i hi => by
        rw [List.getElem?_set]
        by_cases e : j = i
        · subst e; rw [if_pos rfl, if_pos hj]
        · rw [if_neg e]; exact hacc i (by omega))
      rw [List.length_set] at hset
      simp only [laws_markKnotS.L0, laws_markKnotS.step0, dlt hj, cond_true, dle0, lgn hj, Option.bind_some, ws hj (show acc.length ≤ 9223372036854775807 by omega), Int.toNat_natCast, decide_eq_true hj, Bool.and_self, lgset hj, List.set_set, List.length_set, w1, w2, w3]
      exact hset
  refine (Ev.ge (a.length + 1)).mono fun k hk => ?_
  exact key a.length k k 0 a rfl (by omega) (by omega) ha (fun i hi => by omega)
theorem heldKnotS_ans (m : Nat) (hm : m ≤ 1048576) : Ans 91 s_laws_heldKnotS (mKs m, 1, ()) ((1 + 3 * (m : Int), ()), ()) := by
  refine Ans.of (fun k => laws_heldKnotS.F_eq (cl k) k (mKs m) 1) ?_
  have hlen : (mKs m).length = m := mKs_len m
  have key : ∀ (d k q j : Nat), m - j = d → d < q → j ≤ m → laws_heldKnotS.L0 (cl k) k (mKs m) q (1 + 3 * (j : Int)) (j : Int) = some ((1 + 3 * (m : Int), ()), ()) := by
    intro d
    induction d with
    | zero =>
      intro k q j hd hq hj
      obtain ⟨q, rfl⟩ : ∃ p, q = p + 1 := ⟨q - 1, by omega⟩
      have e : j = m := by omega
      simp only [laws_heldKnotS.L0, laws_heldKnotS.step0, dnlt (show (mKs m).length ≤ j by omega), cond_false]
      rw [e]
    | succ d ih =>
      intro k q j hd hq hj
      obtain ⟨q, rfl⟩ : ∃ p, q = p + 1 := ⟨q - 1, by omega⟩
      have hj : j < m := by omega
      have hj' : j < (mKs m).length := by omega
      obtain ⟨w1, w2, w3⟩ := w3 hm hj
      simp only [laws_heldKnotS.L0, laws_heldKnotS.step0, dlt hj', cond_true, dle0, lg hj', Option.bind_some, ws hj (show m ≤ 9223372036854775807 by omega), mKs_get hj', mK, w1, w2, w3, bne_self_eq_false, cond_false]
      exact ih k q (j + 1) (by omega) (by omega) (by omega)
  exact (Ev.ge (m + 1)).mono fun k hk => key m k k 0 rfl (by omega) (by omega)
theorem markDia_ans (d : Dia) (h : d.2.2.1.length ≤ 1048576) : Ans 28 s_laws_markDia (d, 1, ()) ((1 + 3 * (d.2.2.1.length : Int), ()), (d.1, d.2.1, mKs d.2.2.1.length, ()), ()) := by
  refine Ans.of (fun k => laws_markDia.F_eq (cl k) k d 1) ((markKnotS_ans d.2.2.1 h).mono fun k hr => ?_)
  simp only [laws_markDia.F, laws_markDia.Fm, hr, Option.bind_some]
theorem heldDia_ans (a b : Int) (m : Nat) (h : m ≤ 1048576) : Ans 29 s_laws_heldDia ((a, b, mKs m, ()), 1, ()) ((1 + 3 * (m : Int), ()), ()) := by
  refine Ans.of (fun k => laws_heldDia.F_eq (cl k) k (a, b, mKs m, ()) 1) ((heldKnotS_ans m h).mono fun k hr => ?_)
  simp only [laws_heldDia.F, laws_heldDia.Fm, hr, Option.bind_some]
  rw [decide_eq_false (by omega), cond_false]

/-! ### The place of bits -/
def plc (bits : List Bool) : Nat → Nat
  | 0 => 0
  | j + 1 => 2 * plc bits j + (bits.getD j false).toNat
theorem plc_lt (bits : List Bool) : ∀ j, plc bits j < 2 ^ j
  | 0 => Nat.one_pos
  | j + 1 => by
    have h1 := plc_lt bits j
    have h2 : (bits.getD j false).toNat ≤ 1 := by cases bits.getD j false <;> decide
    have e : 2 ^ (j + 1) = 2 ^ j + 2 ^ j := by rw [Nat.pow_succ]; omega
    show 2 * plc bits j + (bits.getD j false).toNat < _
    omega
theorem plc_bit (bits : List Bool) : ∀ (j v : Nat), v < j → (plc bits j).testBit (j - 1 - v) = bits.getD v false
  | j + 1, v, h => by
    have h2 : (bits.getD j false).toNat ≤ 1 := by cases bits.getD j false <;> decide
    show (2 * plc bits j + (bits.getD j false).toNat).testBit _ = _
    by_cases e : v = j
    · subst e
      rw [show v + 1 - 1 - v = 0 by omega, Nat.testBit_zero]
      cases bits.getD v false with
      | true => exact decide_eq_true (by show (2 * plc bits v + 1) % 2 = 1; omega)
      | false => exact decide_eq_false (by show ¬ (2 * plc bits v + 0) % 2 = 1; omega)
    · rw [show j + 1 - 1 - v = (j - 1 - v) + 1 by omega, Nat.testBit_succ, show (2 * plc bits j + (bits.getD j false).toNat) / 2 = plc bits j by omega]
      exact plc_bit bits j v (by omega)
theorem placeOf_ans (bits : List Bool) (hl : bits.length ≤ 10) : Ans 121 s_impl_placeOf (bits, ()) ((((plc bits bits.length : Nat) : Int), ()), ()) := by
  refine Ans.of (fun k => impl_placeOf.F_eq (cl k) k bits) ((truth_ev.and (Ev.ge (bits.length + 1))).mono fun k ⟨hb, hk⟩ => ?_)
  have key : ∀ (n q j : Nat), bits.length - j = n → n < q → j ≤ bits.length → impl_placeOf.L0 (cl k) k bits q ((plc bits j : Nat) : Int) (j : Int) = some ((((plc bits bits.length : Nat) : Int), ()), ()) := by
    intro n
    induction n with
    | zero =>
      intro q j hd hq hj
      obtain ⟨q, rfl⟩ : ∃ p, q = p + 1 := ⟨q - 1, by omega⟩
      simp only [impl_placeOf.L0, impl_placeOf.step0, dnlt (show bits.length ≤ j by omega), cond_false]
      rw [show j = bits.length by omega]
    | succ n ih =>
      intro q j hd hq hj
      obtain ⟨q, rfl⟩ : ∃ p, q = p + 1 := ⟨q - 1, by omega⟩
      have hj : j < bits.length := by omega
      have h1 := plc_lt bits j
      have h2 := pow10 (show j ≤ 10 by omega)
      have hbit := bit_le bits[j]
      have e1 : IntKind.i64.wrap (2 * ((plc bits j : Nat) : Int)) = 2 * ((plc bits j : Nat) : Int) := w64 (by omega) (by omega)
      have e2 : IntKind.i64.wrap (2 * ((plc bits j : Nat) : Int) + bit bits[j]) = ((plc bits (j + 1) : Nat) : Int) := by
        rw [w64 (by omega) (by omega)]
        show _ = ((2 * plc bits j + (bits.getD j false).toNat : Nat) : Int)
        rw [List.getD_eq_getElem?_getD, List.getElem?_eq_getElem hj, Option.getD_some]
        cases bits[j] with
        | true => show 2 * ((plc bits j : Nat) : Int) + 1 = ((2 * plc bits j + 1 : Nat) : Int); omega
        | false => show 2 * ((plc bits j : Nat) : Int) + 0 = ((2 * plc bits j + 0 : Nat) : Int); omega
      simp only [impl_placeOf.L0, impl_placeOf.step0, dlt hj, cond_true, dle0, lg hj, Option.bind_some, hb bits[j], e1, e2, ws hj (show bits.length ≤ 9223372036854775807 by omega)]
      exact ih q (j + 1) (by omega) (by omega) (by omega)
  exact key bits.length k 0 rfl (by omega) (by omega)

/-! ### YesIn -/
def yesIn (d : Dia) (bits : List Bool) : Bool := diaOk d && (decide ((bits.length : Int) = d.1) && walk d.2.2.1 (bitN d.1.toNat (plc bits bits.length)) d.2.2.1.length d.2.1)
theorem spec_YesIn_ans (d : Dia) (hl : d.2.2.1.length ≤ 1048576) (bits : List Bool) : Ans 62 s_spec_YesIn (d, bits, ()) ((yesIn d bits, ()), ()) := by
  have hF := fun k => spec_YesIn.F_eq (cl k) k d bits
  have h1 := spec_DiaOk_ans d hl
  unfold yesIn
  cases hd : diaOk d with
  | false =>
    rw [hd] at h1
    refine Ans.of hF (h1.mono fun k h1 => ?_)
    simp only [spec_YesIn.F, spec_YesIn.Fm, h1, Option.bind_some, cond_false, Bool.false_and]
  | true =>
    rw [hd] at h1
    have ⟨g, _⟩ := diaOk_at hd
    have ⟨g0, g1, g2, g3⟩ := goodB_at g
    by_cases hb : (bits.length : Int) = d.1
    · have h2 := l13Yes_ans d d.1.toNat (bitN d.1.toNat (plc bits bits.length)) bits hl (goodB_falls g) (fun v hv => by
        have e : bits.length = d.1.toNat := by omega
        have := plc_bit bits bits.length v (by omega)
        unfold bitN
        rw [← e, this, List.getD_eq_getElem?_getD, List.getElem?_eq_getElem (by omega), Option.getD_some]) d.2.1 g2.1 g2.2
      refine Ans.of hF ((h1.and h2).mono fun k ⟨h1, h2⟩ => ?_)
      simp only [spec_YesIn.F, spec_YesIn.Fm, h1, Option.bind_some, cond_true, h2, Bool.true_and]
      rw [decide_eq_true hb, beq_iff_eq.2 hb, cond_true, Bool.true_and]
    · refine Ans.of hF (h1.mono fun k h1 => ?_)
      simp only [spec_YesIn.F, spec_YesIn.Fm, h1, Option.bind_some, cond_true, Bool.true_and]
      rw [decide_eq_false hb, beq_false_of_ne hb, cond_false, Bool.false_and]
theorem impl_YesIn_ans (d : Dia) (hl : d.2.2.1.length ≤ 1048576) (bits : List Bool) : Ans 63 s_impl_YesIn (d, bits, ()) ((yesIn d bits, ()), ()) := by
  have hF := fun k => impl_YesIn.F_eq (cl k) k d bits
  have h1 := impl_DiaOk_ans d hl
  unfold yesIn
  cases hd : diaOk d with
  | false =>
    rw [hd] at h1
    refine Ans.of hF (h1.mono fun k h1 => ?_)
    simp only [impl_YesIn.F, impl_YesIn.Fm, h1, Option.bind_some, Bool.not_false, cond_true, Bool.false_and]
  | true =>
    rw [hd] at h1
    have ⟨m1, m2⟩ := diaOk_m hd
    by_cases hb : (bits.length : Int) = d.1
    · have e : bits.length = d.1.toNat := by omega
      have hp := plc_lt bits bits.length
      have hlt : plc bits bits.length < (tab d.1.toNat d.2.2.1 d.2.1).length := by rw [tab_len, ← e]; exact hp
      have hg : (tab d.1.toNat d.2.2.1 d.2.1)[plc bits bits.length] = walk d.2.2.1 (bitN d.1.toNat (plc bits bits.length)) d.2.2.1.length d.2.1 := by simp [tab]
      refine Ans.of hF ((h1.and ((diaOk_tabI hd hl).and (placeOf_ans bits (by omega)))).mono fun k ⟨h1, h2, h3⟩ => ?_)
      simp only [impl_YesIn.F, impl_YesIn.Fm, h1, Option.bind_some, Bool.not_true, cond_false, h2, h3, Bool.true_and]
      rw [decide_eq_true hb, bne_eq_false_iff_eq.2 hb, cond_false, Bool.true_and]
      simp only [dle0, Int.toNat_natCast, decide_eq_true hlt, Bool.and_self, cond_true, lgn hlt, Option.bind_some, hg]
    · refine Ans.of hF (h1.mono fun k h1 => ?_)
      simp only [impl_YesIn.F, impl_YesIn.Fm, h1, Option.bind_some, Bool.not_true, cond_false, Bool.true_and]
      rw [decide_eq_false hb, bne_iff_ne.2 hb, cond_true, Bool.false_and]

/-! ### NotDia -/
def zeroDia : Dia := (0, 0, [], ())
def notDia (d : Dia) : Dia := if diaOk d then mkDia d.1.toNat ((tab d.1.toNat d.2.2.1 d.2.1).map not) else zeroDia
theorem notDia_len (d : Dia) : (notDia d).2.2.1.length ≤ 1023 := by
  unfold notDia
  split
  · rename_i h
    exact mkDia_len _ _ (diaOk_m h).1
  · exact Nat.zero_le _
theorem not_set {t acc : List Bool} {j : Nat} (hj : j < t.length) (hl : acc.length = t.length) (h1 : ∀ i, i < j → acc[i]? = (t.map not)[i]?) (h2 : ∀ i, j ≤ i → acc[i]? = t[i]?) : acc[j]'(by omega) = t[j] ∧ (∀ i, i < j + 1 → (acc.set j (!t[j]))[i]? = (t.map not)[i]?) ∧ (∀ i, j + 1 ≤ i → (acc.set j (!t[j]))[i]? = t[i]?) := by
  have hj' : j < acc.length := by omega
  refine ⟨?_, fun i hi => ?_, fun i hi => ?_⟩
  · have := h2 j (Nat.le_refl _)
    rw [List.getElem?_eq_getElem hj, List.getElem?_eq_getElem hj'] at this
    exact Option.some.inj this
  · rw [List.getElem?_set]
    by_cases e : j = i
    · subst e; rw [if_pos rfl, if_pos hj']; simp [hj]
    · rw [if_neg e]; exact h1 i (by omega)
  · rw [List.getElem?_set, if_neg (by omega)]; exact h2 i (by omega)
theorem spec_NotDia_ans (d : Dia) (hl : d.2.2.1.length ≤ 1048576) : Ans 66 s_spec_NotDia (d, ()) ((notDia d, ()), ()) := by
  have hF := fun k => spec_NotDia.F_eq (cl k) k d
  have h1 := spec_DiaOk_ans d hl
  unfold notDia
  cases hd : diaOk d with
  | false =>
    rw [hd] at h1
    refine Ans.of hF (h1.mono fun k h1 => ?_)
    simp only [spec_NotDia.F, spec_NotDia.Fm, h1, Option.bind_some, Bool.not_false, cond_true]
    rfl
  | true =>
    rw [hd] at h1
    have ⟨m1, m2⟩ := diaOk_m hd
    have hp := pow10 m1
    have h2 := diaOk_tabS hd hl
    have ht := tab_len d.1.toNat d.2.2.1 d.2.1
    generalize tab d.1.toNat d.2.2.1 d.2.1 = t at *
    have h3 := l13Make_ans d.1.toNat (t.map not) m1 (by rw [List.length_map, ht])
    rw [← m2] at h3
    have key : ∀ k, cl k 105 s_spec_l13Make (d.1, t.map not, ()) = some ((mkDia d.1.toNat (t.map not), ()), ()) → ∀ (n q j : Nat) (acc : List Bool), t.length - j = n → n < q → acc.length = t.length → (∀ i, i < j → acc[i]? = (t.map not)[i]?) → (∀ i, j ≤ i → acc[i]? = t[i]?) →
        spec_NotDia.L0 (cl k) k d q (j : Int) acc = some ((mkDia d.1.toNat (t.map not), ()), ()) := by
      intro k h3 n
      induction n with
      | zero =>
        intro q j acc hn hq ha a1 a2
        obtain ⟨q, rfl⟩ : ∃ p, q = p + 1 := ⟨q - 1, by omega⟩
        have e : acc = t.map not := List.ext_getElem? fun i => by
          rcases Nat.lt_or_ge i j with h | h
          · exact a1 i h
          · rw [a2 i h, List.getElem?_eq_none (by omega), List.getElem?_eq_none (by rw [List.length_map]; omega)]
        simp only [spec_NotDia.L0, spec_NotDia.step0, dnlt (show acc.length ≤ j by omega), cond_false]
        rw [e, h3]; rfl
      | succ n ih =>
        intro q j acc hn hq ha a1 a2
        obtain ⟨q, rfl⟩ : ∃ p, q = p + 1 := ⟨q - 1, by omega⟩
        have hj : j < t.length := by omega
        have hj' : j < acc.length := by omega
        obtain ⟨b1, b2, b3⟩ := not_set hj ha a1 a2
        simp only [spec_NotDia.L0, spec_NotDia.step0, dlt hj', cond_true, dle0, Int.toNat_natCast, decide_eq_true hj', Bool.and_self, lgn hj', Option.bind_some, b1, ws hj' (show acc.length ≤ 9223372036854775807 by omega)]
        exact ih q (j + 1) _ (by omega) (by omega) (by rw [List.length_set, ha]) b2 b3
    refine Ans.of hF ((h1.and (h2.and (h3.and (Ev.ge 1025)))).mono fun k ⟨h1, h2, h3, hk⟩ => ?_)
    simp only [spec_NotDia.F, spec_NotDia.Fm, h1, Option.bind_some, Bool.not_true, cond_false, h2]
    exact key k h3 t.length k 0 t rfl (by omega) rfl (fun i hi => by omega) (fun i hi => rfl)
theorem impl_NotDia_ans (d : Dia) (hl : d.2.2.1.length ≤ 1048576) : Ans 59 s_impl_NotDia (d, ()) ((notDia d, ()), ()) := by
  have hF := fun k => impl_NotDia.F_eq (cl k) k d
  have h1 := impl_DiaOk_ans d hl
  unfold notDia
  cases hd : diaOk d with
  | false =>
    rw [hd] at h1
    refine Ans.of hF (h1.mono fun k h1 => ?_)
    simp only [impl_NotDia.F, impl_NotDia.Fm, h1, Option.bind_some, Bool.not_false, cond_true]
    rfl
  | true =>
    rw [hd] at h1
    have ⟨m1, m2⟩ := diaOk_m hd
    have hp := pow10 m1
    have h2 := diaOk_tabI hd hl
    have ht := tab_len d.1.toNat d.2.2.1 d.2.1
    generalize tab d.1.toNat d.2.2.1 d.2.1 = t at *
    have h3 := diaOf_ans d.1.toNat (t.map not) m1 (by rw [List.length_map, ht])
    rw [← m2] at h3
    have key : ∀ k, cl k 109 s_impl_diaOf (d.1, t.map not, ()) = some ((mkDia d.1.toNat (t.map not), ()), ()) → ∀ (n q j : Nat) (acc : List Bool), t.length - j = n → n < q → acc.length = t.length → (∀ i, i < j → acc[i]? = (t.map not)[i]?) → (∀ i, j ≤ i → acc[i]? = t[i]?) →
        impl_NotDia.L0 (cl k) k d ((t, ()), ()) q (j : Int) acc = some ((mkDia d.1.toNat (t.map not), ()), ()) := by
      intro k h3 n
      induction n with
      | zero =>
        intro q j acc hn hq ha a1 a2
        obtain ⟨q, rfl⟩ : ∃ p, q = p + 1 := ⟨q - 1, by omega⟩
        have e : acc = t.map not := List.ext_getElem? fun i => by
          rcases Nat.lt_or_ge i j with h | h
          · exact a1 i h
          · rw [a2 i h, List.getElem?_eq_none (by omega), List.getElem?_eq_none (by rw [List.length_map]; omega)]
        simp only [impl_NotDia.L0, impl_NotDia.step0, dnlt (show t.length ≤ j by omega), cond_false]
        rw [e, h3]; rfl
      | succ n ih =>
        intro q j acc hn hq ha a1 a2
        obtain ⟨q, rfl⟩ : ∃ p, q = p + 1 := ⟨q - 1, by omega⟩
        have hj : j < t.length := by omega
        have hj' : j < acc.length := by omega
        obtain ⟨b1, b2, b3⟩ := not_set hj ha a1 a2
        simp only [impl_NotDia.L0, impl_NotDia.step0, dlt hj, cond_true, dle0, Int.toNat_natCast, decide_eq_true hj', Bool.and_self, lgn hj', Option.bind_some, b1, ws hj' (show acc.length ≤ 9223372036854775807 by omega)]
        exact ih q (j + 1) _ (by omega) (by omega) (by rw [List.length_set, ha]) b2 b3
    refine Ans.of hF ((h1.and (h2.and (h3.and (Ev.ge 1025)))).mono fun k ⟨h1, h2, h3, hk⟩ => ?_)
    simp only [impl_NotDia.F, impl_NotDia.Fm, h1, Option.bind_some, Bool.not_true, cond_false, h2]
    exact key k h3 t.length k 0 t rfl (by omega) rfl (fun i hi => by omega) (fun i hi => rfl)

end Go.Proofs.Ytcmgjdmhemfecaa.Pf
