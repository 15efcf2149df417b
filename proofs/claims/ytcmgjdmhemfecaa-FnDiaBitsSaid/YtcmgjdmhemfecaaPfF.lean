/- Dias: the laws' helpers, going through a Dia, its table. No condition. -/
import Derived.Test.YtcmgjdmhemfecaaPfNb
import Derived.Test.YtcmgjdmhemfecaaPfT2
namespace Go.Proofs.Ytcmgjdmhemfecaa.Pf
open Go Go.Pv

abbrev Kn := Int × (Int × (Int × Unit))
abbrev Dia := Int × (Int × (List Kn × Unit))
/-! ### The laws' helpers -/
theorem szKnotS_ans (a : List Kn) (ha : a.length ≤ maxLen) : ∃ r : Int, Ans 102 s_laws_szKnotS (a, 1048576, ()) ((r, ()), ()) ∧ (r = -1 ∨ (0 ≤ r ∧ a.length ≤ 1048576)) := by
  rw [maxLen_eq] at ha
  have hw : IntKind.i64.wrap ((1048576 : Int) - (a.length : Int)) = 1048576 - a.length := w64 (by omega) (by omega)
  by_cases h : a.length ≤ 1048576
  · refine ⟨1048576 - a.length, Ans.of (fun k => laws_szKnotS.F_eq (cl k) k a 1048576) (.all fun k => ?_), .inr ⟨by omega, h⟩⟩
    simp only [laws_szKnotS.F, laws_szKnotS.Fm, hw]
    rw [decide_eq_false (by omega)]; rfl
  · refine ⟨-1, Ans.of (fun k => laws_szKnotS.F_eq (cl k) k a 1048576) (.all fun k => ?_), .inl rfl⟩
    simp only [laws_szKnotS.F, laws_szKnotS.Fm, hw]
    rw [decide_eq_true (by omega)]; rfl
theorem szDia_ans (d : Dia) (ha : d.2.2.1.length ≤ maxLen) : ∃ r : Int, Ans 43 s_laws_szDia (d, 1048576, ()) ((r, ()), ()) ∧ (r = -1 ∨ (0 ≤ r ∧ d.2.2.1.length ≤ 1048576)) := by
  obtain ⟨r, hr, h⟩ := szKnotS_ans d.2.2.1 ha
  refine ⟨r, Ans.of (fun k => laws_szDia.F_eq (cl k) k d 1048576) (hr.mono fun k hr => ?_), h⟩
  simp only [laws_szDia.F, laws_szDia.Fm, hr, Option.bind_some]
  rcases h with rfl | ⟨h, _⟩
  · rfl
  · rw [decide_eq_false (by omega)]; rfl

def ToKnotK (k : Nat) : Prop := ∀ x : Kn, cl k 152 s_laws_toKnot (x, ()) = some ((x, ()), ())
theorem toKnot_ev : Ev ToKnotK := Ev.succ fun k x => by
  rw [cl_succ, laws_toKnot.F_eq (cl k) k x]; rfl
theorem toKnotS_ans (a : List Kn) (ha : a.length ≤ 1048576) : Ans 107 s_laws_toKnotS (a, ()) ((a, ()), ()) := by
  refine Ans.of (fun k => laws_toKnotS.F_eq (cl k) k a) ?_
  have key : ∀ (d k n j : Nat) (acc : List Kn), ToKnotK k → acc.length = a.length → a.length - j = d → d < n → laws_toKnotS.L0 (cl k) k a n (j : Int) acc = some ((acc.take j ++ a.drop j, ()), ()) := by
    intro d
    induction d with
    | zero =>
      intro k n j acc hc hl hd hn
      obtain ⟨n, rfl⟩ : ∃ m, n = m + 1 := ⟨n - 1, by omega⟩
      simp only [laws_toKnotS.L0, laws_toKnotS.step0, dnlt (show a.length ≤ j by omega), cond_false]
      rw [List.take_of_length_le (by omega), List.drop_of_length_le (by omega), List.append_nil]
    | succ d ih =>
      intro k n j acc hc hl hd hn
      obtain ⟨n, rfl⟩ : ∃ m, n = m + 1 := ⟨n - 1, by omega⟩
      have hj : j < a.length := by omega
      have hj' : j < acc.length := by omega
      have hs := ih k n (j + 1) (acc.set j a[j]) hc (by simp [hl]) (by omega) (by omega)
      rw [set_take_drop acc a hj hl] at hs
      simp only [laws_toKnotS.L0, laws_toKnotS.step0, dlt hj, cond_true, dle0, lgn hj, lgn hj', Option.bind_some, hc a[j], ws hj (show a.length ≤ 9223372036854775807 by omega), Int.toNat_natCast, decide_eq_true hj', Bool.and_self]
      exact hs
  refine ((Ev.ge (a.length + 1)).and toKnot_ev).mono fun k ⟨hk, hc⟩ => ?_
  unfold laws_toKnotS.F laws_toKnotS.Fm
  rw [mk_ok (n := a.length) (b := ti92.bytes) (by show a.length * 24 ≤ _; omega), cond_true]
  exact (key a.length k k 0 _ hc (by simp) rfl (by omega)).trans (by simp)
theorem toDia_ans (d : Dia) (h : d.2.2.1.length ≤ 1048576) : Ans 45 s_laws_toDia (d, ()) ((d, ()), ()) := by
  refine Ans.of (fun k => laws_toDia.F_eq (cl k) k d) ((toKnotS_ans d.2.2.1 h).mono fun k hr => ?_)
  simp only [laws_toDia.F, laws_toDia.Fm, hr, Option.bind_some]

def EqKnotK (k : Nat) : Prop := ∀ x : Kn, cl k 146 s_laws_eqKnot (x, x, ()) = some ((true, ()), ())
theorem eqKnot_ev : Ev EqKnotK := Ev.succ fun k x => by
  rw [cl_succ, laws_eqKnot.F_eq (cl k) k x x]
  simp only [laws_eqKnot.F, laws_eqKnot.Fm, bne_self_eq_false, cond_false]
theorem eqKnotS_ans (a : List Kn) (ha : a.length ≤ maxLen) : Ans 89 s_laws_eqKnotS (a, a, ()) ((true, ()), ()) := by
  refine Ans.of (fun k => laws_eqKnotS.F_eq (cl k) k a a) ?_
  have key : ∀ (d k n j : Nat), EqKnotK k → a.length - j = d → d < n → laws_eqKnotS.L0 (cl k) k a a n (j : Int) = some ((true, ()), ()) := by
    intro d
    induction d with
    | zero =>
      intro k n j hc hd hn
      obtain ⟨n, rfl⟩ : ∃ m, n = m + 1 := ⟨n - 1, by omega⟩
      simp only [laws_eqKnotS.L0, laws_eqKnotS.step0, dnlt (show a.length ≤ j by omega), cond_false]
    | succ d ih =>
      intro k n j hc hd hn
      obtain ⟨n, rfl⟩ : ∃ m, n = m + 1 := ⟨n - 1, by omega⟩
      have hj : j < a.length := by omega
      simp only [laws_eqKnotS.L0, laws_eqKnotS.step0, dlt hj, cond_true, dle0, lg hj, Option.bind_some, hc a[j], ws hj (maxLen_eq ▸ ha), Bool.not_true, cond_false]
      exact ih k n (j + 1) hc (by omega) (by omega)
  refine ((Ev.ge (a.length + 1)).and eqKnot_ev).mono fun k ⟨hk, hc⟩ => ?_
  simp only [laws_eqKnotS.F, laws_eqKnotS.Fm, bne_self_eq_false, cond_false]
  exact key a.length k k 0 hc rfl (by omega)
theorem eqDia_ans (d : Dia) (h : d.2.2.1.length ≤ 1048576) : Ans 27 s_laws_eqDia (d, d, ()) ((true, ()), ()) := by
  refine Ans.of (fun k => laws_eqDia.F_eq (cl k) k d d) ((eqKnotS_ans d.2.2.1 (by rw [maxLen_eq]; omega)).mono fun k hr => ?_)
  simp only [laws_eqDia.F, laws_eqDia.Fm, hr, Option.bind_some, bne_self_eq_false, cond_false, Bool.not_true]

/-! ### Bits of a number -/
theorem and_pow (n j : Nat) : n &&& 2 ^ j = if n.testBit j then 2 ^ j else 0 := by
  apply Nat.eq_of_testBit_eq
  intro i
  rw [Nat.testBit_and, Nat.testBit_two_pow]
  by_cases e : j = i
  · subst e
    cases h : n.testBit j with
    | true => simp
    | false => simp
  · rw [decide_eq_false e, Bool.and_false]
    split
    · rw [Nat.testBit_two_pow, decide_eq_false e]
    · simp
theorem and_weight {m n v : Nat} (hm : m ≤ 10) (hn : n ≤ 1048576) : (bitsI .and .i64 (n : Int) ((2 ^ (m - 1 - v) : Nat) : Int) != 0) = bitN m n v := by
  have h1 := pow10 (show m - 1 - v ≤ 10 by omega)
  unfold bitsI bitN
  have h2 : (BitVec.ofInt IntKind.i64.bits (n : Int) &&& BitVec.ofInt IntKind.i64.bits ((2 ^ (m - 1 - v) : Nat) : Int)).toNat = n &&& 2 ^ (m - 1 - v) := by
    rw [BitVec.toNat_and, BitVec.ofInt_natCast, BitVec.ofInt_natCast, BitVec.toNat_ofNat, BitVec.toNat_ofNat]
    rw [show IntKind.i64.bits = 64 from rfl, Nat.mod_eq_of_lt (show n < 2 ^ 64 by omega), Nat.mod_eq_of_lt (show 2 ^ (m - 1 - v) < 2 ^ 64 by omega)]
  simp only [h2, and_pow]
  generalize m - 1 - v = j at *
  have h3 : 0 < 2 ^ j := Nat.pow_pos (by omega)
  cases n.testBit j with
  | false => rfl
  | true =>
    rw [if_pos rfl, w64 (by omega) (by omega), bne_iff_ne]
    omega

/-! ### Going through a Dia -/
def walk (ks : List Kn) (f : Nat → Bool) : Nat → Int → Bool
  | 0, r => r == 1
  | n + 1, r => if r ≤ 1 then r == 1 else match ks[(r - 2).toNat]? with
    | none => false
    | some k => walk ks f n (if f k.1.toNat then k.2.2.1 else k.2.1)
def Falls (m : Nat) (ks : List Kn) : Prop := ∀ (i : Nat) (h : i < ks.length), (0 ≤ ks[i].1 ∧ ks[i].1 < (m : Int)) ∧ (0 ≤ ks[i].2.1 ∧ ks[i].2.1 ≤ (i : Int) + 1) ∧ (0 ≤ ks[i].2.2.1 ∧ ks[i].2.2.1 ≤ (i : Int) + 1)
def tab (m : Nat) (ks : List Kn) (root : Int) : List Bool := (List.range (2 ^ m)).map fun n => walk ks (bitN m n) ks.length root
theorem tab_len (m : Nat) (ks : List Kn) (root : Int) : (tab m ks root).length = 2 ^ m := by simp [tab]

theorem l13Yes_ans (d : Dia) (m : Nat) (f : Nat → Bool) (bits : List Bool) (hl : d.2.2.1.length ≤ 1048576) (hf : Falls m d.2.2.1) (hb : ∀ v, v < m → bits[v]? = some (f v)) (r : Int) (h0 : 0 ≤ r) (h1 : r ≤ d.2.2.1.length + 1) : Ans 120 s_spec_l13Yes (d, r, bits, ()) ((walk d.2.2.1 f d.2.2.1.length r, ()), ()) := by
  refine Ans.of (fun k => spec_l13Yes.F_eq (cl k) k d r bits) ?_
  have key : ∀ (n k q : Nat) (r : Int), n < q → 0 ≤ r → r ≤ n + 1 → r ≤ d.2.2.1.length + 1 → spec_l13Yes.L0 (cl k) k d bits q r = some ((walk d.2.2.1 f n r, ()), ()) := by
    intro n
    induction n with
    | zero =>
      intro k q r hq h0 h1 h2
      obtain ⟨q, rfl⟩ : ∃ p, q = p + 1 := ⟨q - 1, by omega⟩
      simp only [spec_l13Yes.L0, spec_l13Yes.step0]
      rw [decide_eq_false (by omega), cond_false]; rfl
    | succ n ih =>
      intro k q r hq h0 h1 h2
      obtain ⟨q, rfl⟩ : ∃ p, q = p + 1 := ⟨q - 1, by omega⟩
      unfold walk
      by_cases hr : r ≤ 1
      · rw [if_pos hr]
        simp only [spec_l13Yes.L0, spec_l13Yes.step0]
        rw [decide_eq_false (by omega), cond_false]
      · rw [if_neg hr]
        obtain ⟨i, rfl⟩ : ∃ i : Nat, r = (i : Int) + 2 := ⟨(r - 2).toNat, by omega⟩
        have hi : i < d.2.2.1.length := by omega
        have hk := hf i hi
        have e1 : (i : Int) + 2 - 2 = (i : Int) := by omega
        have e2 : IntKind.i64.wrap (i : Int) = (i : Int) := w64 (by omega) (by omega)
        have hv : d.2.2.1[i].1.toNat < m := by omega
        have hg : lget bits d.2.2.1[i].1.toNat = some (f d.2.2.1[i].1.toNat) := hb _ hv
        simp only [spec_l13Yes.L0, spec_l13Yes.step0, e1, e2, dle0, cond_true, lgn hi, Option.bind_some, hg, Int.toNat_natCast, List.getElem?_eq_getElem hi]
        rw [decide_eq_true (by omega), decide_eq_true hk.1.1, cond_true, cond_true]
        cases f d.2.2.1[i].1.toNat with
        | true => rw [cond_true]; exact ih k q _ (by omega) (by omega) (by omega) (by omega)
        | false => rw [cond_false]; exact ih k q _ (by omega) (by omega) (by omega) (by omega)
  exact (Ev.ge (d.2.2.1.length + 1)).mono fun k hk => key d.2.2.1.length k k r (by omega) h0 h1 h1

theorem l13Table_ans (d : Dia) (m : Nat) (hm : m ≤ 10) (hd : d.1 = (m : Int)) (hl : d.2.2.1.length ≤ 1048576) (hf : Falls m d.2.2.1) (h0 : 0 ≤ d.2.1) (h1 : d.2.1 ≤ d.2.2.1.length + 1) : Ans 106 s_spec_l13Table (d, ()) ((tab m d.2.2.1 d.2.1, ()), ()) := by
  refine Ans.of (fun k => spec_l13Table.F_eq (cl k) k d) ?_
  have hp := pow10 hm
  have hp0 : 0 < 2 ^ m := Nat.pow_pos (by omega)
  have key : ∀ (e k q j : Nat), cl k 124 s_spec_l13Size ((m : Int), ()) = some ((((2 ^ m : Nat) : Int), ()), ()) → (∀ n : Nat, n < 2 ^ m → cl k 125 s_spec_l13Bits ((m : Int), (n : Int), ()) = some ((bitsN m n, ()), ())) →
      (∀ n : Nat, n < 2 ^ m → cl k 120 s_spec_l13Yes (d, d.2.1, bitsN m n, ()) = some ((walk d.2.2.1 (bitN m n) d.2.2.1.length d.2.1, ()), ())) → 2 ^ m - j = e → j ≤ 2 ^ m → e < q →
      spec_l13Table.L0 (cl k) k d q (j : Int) ((List.range j).map fun n => walk d.2.2.1 (bitN m n) d.2.2.1.length d.2.1) = some ((tab m d.2.2.1 d.2.1, ()), ()) := by
    intro e
    induction e with
    | zero =>
      intro k q j hs hb hy he hj hq
      obtain ⟨q, rfl⟩ : ∃ p, q = p + 1 := ⟨q - 1, by omega⟩
      have hj : j = 2 ^ m := by omega
      subst hj
      simp only [spec_l13Table.L0, spec_l13Table.step0, hd, hs, Option.bind_some, dnlt (Nat.le_refl _), cond_false]
      rfl
    | succ e ih =>
      intro k q j hs hb hy he hj hq
      obtain ⟨q, rfl⟩ : ∃ p, q = p + 1 := ⟨q - 1, by omega⟩
      have hj : j < 2 ^ m := by omega
      have hn := ih k q (j + 1) hs hb hy (by omega) (by omega) (by omega)
      rw [List.range_succ, List.map_append] at hn
      have hy' : cl k 120 s_spec_l13Yes ((d.1, d.2.1, d.2.2.1, ()), d.2.1, bitsN m j, ()) = some ((walk d.2.2.1 (bitN m j) d.2.2.1.length d.2.1, ()), ()) := hy j hj
      rw [hd] at hy'
      simp only [spec_l13Table.L0, spec_l13Table.step0, hd, hs, Option.bind_some, dlt hj, cond_true, hb j hj, hy', List.length_map, List.length_range, List.length_cons, List.length_nil, ws hj (show 2 ^ m ≤ 9223372036854775807 by omega)]
      rw [decide_eq_true (by show (j + (0 + 1)) * 1 ≤ _; omega), cond_true]
      exact hn
  refine ((l13Size_ans m hm).and ((Ev.forall_lt (n := 2 ^ m) fun n hn => l13Bits_ans m n hm (by omega)).and ((Ev.forall_lt (n := 2 ^ m) fun n hn => l13Yes_ans d m (bitN m n) (bitsN m n) hl hf (fun v hv => by simp [bitsN, hv]) d.2.1 h0 h1).and (Ev.ge (2 ^ m + 1))))).mono fun k ⟨a, b, c, hk⟩ => ?_
  exact key (2 ^ m) k k 0 a b c rfl (Nat.zero_le _) hk

def WeightK (k : Nat) : Prop := ∀ (m v : Nat), m ≤ 10 → v < m → cl k 154 s_impl_weight ((m : Int), (v : Int), ()) = some ((((2 ^ (m - 1 - v) : Nat) : Int), ()), ())
theorem weight_ev : Ev WeightK := Ev.succ fun k m v hm hv => by
  rw [cl_succ, impl_weight.F_eq (cl k) k (m : Int) (v : Int)]
  have e : IntKind.i64.wrap (IntKind.i64.wrap ((m : Int) - 1) - (v : Int)) = ((m - 1 - v : Nat) : Int) := by
    rw [w64 (x := (m : Int) - 1) (by omega) (by omega), w64 (by omega) (by omega)]; omega
  simp only [impl_weight.F, impl_weight.Fm, e, shl1 (show m - 1 - v ≤ 10 by omega)]
  rw [decide_eq_false (by omega)]; rfl

theorem tableOf_ans (d : Dia) (m : Nat) (hm : m ≤ 10) (hd : d.1 = (m : Int)) (hl : d.2.2.1.length ≤ 1048576) (hf : Falls m d.2.2.1) (h0 : 0 ≤ d.2.1) (h1 : d.2.1 ≤ d.2.2.1.length + 1) : Ans 110 s_impl_tableOf (d, ()) ((tab m d.2.2.1 d.2.1, ()), ()) := by
  refine Ans.of (fun k => impl_tableOf.F_eq (cl k) k d) ?_
  have hp := pow10 hm
  have hp0 : 0 < 2 ^ m := Nat.pow_pos (by omega)
  have key1 : ∀ (k : Nat), WeightK k → ∀ (j : Nat) (acc : List Bool) (hj : j < acc.length) (ha : acc.length = 2 ^ m) (r0 : Int → List Bool → Option impl_tableOf.R) (n q : Nat) (r : Int), n < q → 0 ≤ r → r ≤ n + 1 → r ≤ d.2.2.1.length + 1 →
      impl_tableOf.L1 (cl k) k d (j : Int) acc r0 q r = r0 ((j + 1 : Nat) : Int) (acc.set j (walk d.2.2.1 (bitN m j) n r)) := by
    intro k hw j acc hj ha r0 n
    have fin : ∀ (q : Nat) (r : Int), r ≤ 1 → impl_tableOf.L1 (cl k) k d (j : Int) acc r0 (q + 1) r = r0 ((j + 1 : Nat) : Int) (acc.set j (r == 1)) := by
      intro q r hr
      simp only [impl_tableOf.L1, impl_tableOf.step1]
      rw [decide_eq_false (by omega), cond_false]
      simp only [dle0, Int.toNat_natCast, decide_eq_true hj, Bool.and_self, cond_true, lgn hj, Option.bind_some, ws hj (show acc.length ≤ 9223372036854775807 by omega)]
    induction n with
    | zero =>
      intro q r hq h0 h1 h2
      obtain ⟨q, rfl⟩ : ∃ p, q = p + 1 := ⟨q - 1, by omega⟩
      rw [fin q r (by omega)]; rfl
    | succ n ih =>
      intro q r hq h0 h1 h2
      obtain ⟨q, rfl⟩ : ∃ p, q = p + 1 := ⟨q - 1, by omega⟩
      unfold walk
      by_cases hr : r ≤ 1
      · rw [if_pos hr, fin q r hr]
      · rw [if_neg hr]
        obtain ⟨i, rfl⟩ : ∃ i : Nat, r = (i : Int) + 2 := ⟨(r - 2).toNat, by omega⟩
        have hi : i < d.2.2.1.length := by omega
        have hk := hf i hi
        have e1 : (i : Int) + 2 - 2 = (i : Int) := by omega
        have e2 : IntKind.i64.wrap (i : Int) = (i : Int) := w64 (by omega) (by omega)
        have hv : d.2.2.1[i].1.toNat < m := by omega
        have hw' := hw m d.2.2.1[i].1.toNat hm hv
        rw [show ((d.2.2.1[i].1.toNat : Nat) : Int) = d.2.2.1[i].1 by omega] at hw'
        simp only [impl_tableOf.L1, impl_tableOf.step1, e1, e2, dle0, cond_true, lgn hi, Option.bind_some, hd, hw', Int.toNat_natCast, List.getElem?_eq_getElem hi, and_weight (v := d.2.2.1[i].1.toNat) hm (show j ≤ 1048576 by omega)]
        rw [decide_eq_true (by omega), cond_true]
        cases bitN m j d.2.2.1[i].1.toNat with
        | true => rw [cond_true]; exact ih q _ (by omega) (by omega) (by omega) (by omega)
        | false => rw [cond_false]; exact ih q _ (by omega) (by omega) (by omega) (by omega)
  have key0 : ∀ (k : Nat), WeightK k → d.2.2.1.length < k → ∀ (e q j : Nat) (acc : List Bool), acc.length = 2 ^ m → (∀ i, i < j → acc[i]? = some (walk d.2.2.1 (bitN m i) d.2.2.1.length d.2.1)) → 2 ^ m - j = e → j ≤ 2 ^ m → e < q →
      impl_tableOf.L0 (cl k) k d q (j : Int) acc = some ((tab m d.2.2.1 d.2.1, ()), ()) := by
    intro k hw hk e
    induction e with
    | zero =>
      intro q j acc ha h he hj hq
      obtain ⟨q, rfl⟩ : ∃ p, q = p + 1 := ⟨q - 1, by omega⟩
      simp only [impl_tableOf.L0, impl_tableOf.step0, hd, shl1 hm, List.length_replicate, Int.toNat_natCast, dnlt (show 2 ^ m ≤ j by omega), cond_false]
      have e := list_of (acc := acc) fun i hi => h i (by omega)
      rw [e, ha]; rfl
    | succ e ih =>
      intro q j acc ha h he hj hq
      obtain ⟨q, rfl⟩ : ∃ p, q = p + 1 := ⟨q - 1, by omega⟩
      have hj : j < 2 ^ m := by omega
      have hj' : j < acc.length := by omega
      simp only [impl_tableOf.L0, impl_tableOf.step0, hd, shl1 hm, List.length_replicate, Int.toNat_natCast, dlt hj, cond_true]
      refine (key1 k hw j acc hj' ha _ d.2.2.1.length k d.2.1 hk h0 h1 h1).trans ?_
      refine ih q (j + 1) _ (by simp [ha]) (fun i hi => ?_) (by omega) (by omega) (by omega)
      rw [List.getElem?_set]
      by_cases e : j = i
      · subst e; rw [if_pos rfl, if_pos hj']
      · rw [if_neg e]; exact h i (by omega)
  refine (weight_ev.and (Ev.ge (2 ^ m + d.2.2.1.length + 1))).mono fun k ⟨hw, hk⟩ => ?_
  unfold impl_tableOf.F impl_tableOf.Fm
  rw [hd, decide_eq_false (by omega), cond_false, shl1 hm, mk_ok (n := 2 ^ m) (b := ti4.bytes) (by show 2 ^ m * 1 ≤ _; omega), cond_true]
  exact key0 k hw (by omega) (2 ^ m) k 0 _ (by rw [List.length_replicate, Int.toNat_natCast]) (fun i hi => by omega) rfl (by omega) (by omega)

end Go.Proofs.Ytcmgjdmhemfecaa.Pf
