/- Dias: AndDia, OrDia. No condition. -/
import Derived.Test.YtcmgjdmhemfecaaPfM
import Derived.Test.YtcmgjdmhemfecaaPfTq
namespace Go.Proofs.Ytcmgjdmhemfecaa.Pf
open Go Go.Pv

theorem szKnotS_ans2 (a : List Kn) {n : Int} (h0 : 0 ≤ n) (h1 : n ≤ 1048576) (ha : a.length ≤ maxLen) : ∃ r : Int, Ans 102 s_laws_szKnotS (a, n, ()) ((r, ()), ()) ∧ (r = -1 ∨ ((0 ≤ r ∧ r ≤ n) ∧ a.length ≤ 1048576)) := by
  rw [maxLen_eq] at ha
  have hw : IntKind.i64.wrap (n - (a.length : Int)) = n - a.length := w64 (by omega) (by omega)
  by_cases h : (a.length : Int) ≤ n
  · refine ⟨n - a.length, Ans.of (fun k => laws_szKnotS.F_eq (cl k) k a n) (.all fun k => ?_), .inr ⟨⟨by omega, by omega⟩, by omega⟩⟩
    simp only [laws_szKnotS.F, laws_szKnotS.Fm, hw]
    rw [decide_eq_false (by omega)]; rfl
  · refine ⟨-1, Ans.of (fun k => laws_szKnotS.F_eq (cl k) k a n) (.all fun k => ?_), .inl rfl⟩
    simp only [laws_szKnotS.F, laws_szKnotS.Fm, hw]
    rw [decide_eq_true (by omega)]; rfl
theorem szDia_ans2 (d : Dia) {n : Int} (h0 : 0 ≤ n) (h1 : n ≤ 1048576) (ha : d.2.2.1.length ≤ maxLen) : ∃ r : Int, Ans 43 s_laws_szDia (d, n, ()) ((r, ()), ()) ∧ (r = -1 ∨ ((0 ≤ r ∧ r ≤ n) ∧ d.2.2.1.length ≤ 1048576)) := by
  obtain ⟨r, hr, h⟩ := szKnotS_ans2 d.2.2.1 h0 h1 ha
  refine ⟨r, Ans.of (fun k => laws_szDia.F_eq (cl k) k d n) (hr.mono fun k hr => ?_), h⟩
  simp only [laws_szDia.F, laws_szDia.Fm, hr, Option.bind_some]
  rcases h with rfl | ⟨h, _⟩
  · rfl
  · rw [decide_eq_false (by have := h.1; omega)]; rfl


theorem markKnotS_any (a : List Kn) (ha : a.length ≤ 1048576) {s : Int} (s0 : 0 ≤ s) (s1 : s ≤ 1000000000000) : Ev fun k => ∃ l, cl k 90 s_laws_markKnotS (a, s, ()) = some ((s + 3 * (a.length : Int), ()), l, ()) := by
  have key : ∀ (d k q j : Nat) (acc : List Kn), acc.length - j = d → d < q → j ≤ acc.length → acc.length ≤ 1048576 → ∃ l, laws_markKnotS.L0 (cl k) k q (s + 3 * (j : Int)) (j : Int) acc = some ((s + 3 * (acc.length : Int), ()), l, ()) := by
    intro d
    induction d with
    | zero =>
      intro k q j acc hd hq hj hl
      obtain ⟨q, rfl⟩ : ∃ m, q = m + 1 := ⟨q - 1, by omega⟩
      have e : j = acc.length := by omega
      refine ⟨acc, ?_⟩
      simp only [laws_markKnotS.L0, laws_markKnotS.step0, dnlt (show acc.length ≤ j by omega), cond_false]
      rw [e]
    | succ d ih =>
      intro k q j acc hd hq hj hl
      obtain ⟨q, rfl⟩ : ∃ m, q = m + 1 := ⟨q - 1, by omega⟩
      have hj : j < acc.length := by omega
      have w1 : IntKind.i64.wrap (s + 3 * (j : Int) + 1) = s + 3 * (j : Int) + 1 := w64 (by omega) (by omega)
      have w2 : IntKind.i64.wrap (s + 3 * (j : Int) + 1 + 1) = s + 3 * (j : Int) + 2 := by rw [w64 (by omega) (by omega)]; omega
      have w3 : IntKind.i64.wrap (s + 3 * (j : Int) + 2 + 1) = s + 3 * ((j + 1 : Nat) : Int) := by rw [w64 (by omega) (by omega)]; omega
      have hset := fun x => ih k q (j + 1) (acc.set j x) (by simp; omega) (by omega) (by simp; omega) (by simp; omega)
      simp only [List.length_set] at hset
      simp only [laws_markKnotS.L0, laws_markKnotS.step0, dlt hj, cond_true, dle0, lgn hj, Option.bind_some, ws hj (show acc.length ≤ 9223372036854775807 by omega), Int.toNat_natCast, decide_eq_true hj, Bool.and_self, lgset hj, List.set_set, List.length_set, w1, w2, w3]
      exact hset _
  refine Ev.step (Ev.ge (a.length + 1)) fun k hk => ?_
  rw [cl_succ, laws_markKnotS.F_eq (cl k) k a s]
  obtain ⟨l, h⟩ := key a.length k k 0 a rfl (by omega) (by omega) ha
  refine ⟨l, ?_⟩
  have e : s + 3 * ((0 : Nat) : Int) = s := by omega
  rw [e] at h
  exact h
theorem markDia_any (d : Dia) (h : d.2.2.1.length ≤ 1048576) {s : Int} (s0 : 0 ≤ s) (s1 : s ≤ 1000000000000) : Ev fun k => ∃ l, cl k 28 s_laws_markDia (d, s, ()) = some ((s + 3 * (d.2.2.1.length : Int), ()), (d.1, d.2.1, l, ()), ()) := by
  refine Ev.step (markKnotS_any d.2.2.1 h s0 s1) fun k ⟨l, hr⟩ => ⟨l, ?_⟩
  rw [cl_succ, laws_markDia.F_eq (cl k) k d s]
  simp only [laws_markDia.F, laws_markDia.Fm, hr, Option.bind_some]

def AndK (k : Nat) : Prop := ∀ a b : Bool, cl k 117 s_impl_AndDia_1 (a, b, ()) = some ((opB true a b, ()), ())
theorem And1_ev : Ev AndK := Ev.succ fun k a b => by
  rw [cl_succ, impl_AndDia_1.F_eq (cl k) k a b]; cases a <;> rfl
theorem impl_AndDia_ans (a b : Dia) (hl : a.2.2.1.length ≤ 1048576) (hl2 : b.2.2.1.length ≤ 1048576) : Ans 58 s_impl_AndDia (a, b, ()) (both true a b, ()) := by
  suffices hh : Ans 11800115 s_impl_bothDias__impl_AndDia_1 (a, b, (), ()) (both true a b, ()) by
    refine Ans.of (fun k => impl_AndDia.F_eq (cl k) k a b) (hh.mono fun k h => ?_)
    simp only [impl_AndDia.F, impl_AndDia.Fm, h, Option.bind_some]
  have hF := fun k => impl_bothDias__impl_AndDia_1.F_eq (cl k) k a b ()
  have h1 := impl_DiaOk_ans a hl
  have h2 := impl_DiaOk_ans b hl2
  unfold both
  cases hd : diaOk a with
  | false =>
    rw [hd] at h1
    rw [if_neg (by simp)]
    refine Ans.of hF (h1.mono fun k h1 => ?_)
    simp only [impl_bothDias__impl_AndDia_1.F, impl_bothDias__impl_AndDia_1.Fm, h1, Option.bind_some, Bool.not_false, cond_true]
    rfl
  | true =>
    rw [hd] at h1
    cases he : diaOk b with
    | false =>
      rw [he] at h2
      rw [if_neg (by simp)]
      refine Ans.of hF ((h1.and h2).mono fun k ⟨h1, h2⟩ => ?_)
      simp only [impl_bothDias__impl_AndDia_1.F, impl_bothDias__impl_AndDia_1.Fm, h1, h2, Option.bind_some, Bool.not_false, Bool.not_true, cond_true, cond_false]
      rfl
    | true =>
      rw [he] at h2
      by_cases hv : a.1 = b.1
      · rw [if_pos ⟨rfl, rfl, hv⟩]
        have ⟨m1, m2⟩ := diaOk_m hd
        have hp := pow10 m1
        have h3 := diaOk_tabI hd hl
        have h4 := diaOk_tabI he hl2
        have ht := tab_len a.1.toNat a.2.2.1 a.2.1
        have hu := tab_len b.1.toNat b.2.2.1 b.2.1
        rw [← hv] at h4 hu
        rw [← hv]
        generalize tab a.1.toNat a.2.2.1 a.2.1 = t at *
        generalize tab a.1.toNat b.2.2.1 b.2.1 = u at *
        have h5 := diaOf_ans a.1.toNat (bothT true t u) m1 (by rw [bothT_len, ht])
        rw [← m2] at h5
        have key : ∀ k, AndK k → cl k 109 s_impl_diaOf (a.1, bothT true t u, ()) = some ((mkDia a.1.toNat (bothT true t u), ()), ()) → ∀ (n q j : Nat) (acc : List Bool), t.length - j = n → n < q → j ≤ t.length → acc.length = t.length → (∀ i, i < j → acc[i]? = some (opB true (t.getD i false) (u.getD i false))) → (∀ i, j ≤ i → acc[i]? = t[i]?) →
            impl_bothDias__impl_AndDia_1.L0 (cl k) k a ((t, ()), ()) ((u, ()), ()) q (j : Int) acc = some ((mkDia a.1.toNat (bothT true t u), true, ()), ()) := by
          intro k ho h5 n
          induction n with
          | zero =>
            intro q j acc hn hq hjl ha a1 a2
            obtain ⟨q, rfl⟩ : ∃ p, q = p + 1 := ⟨q - 1, by omega⟩
            have e : acc = bothT true t u := by
              have := list_of (acc := acc) fun i hi => a1 i (by omega)
              rw [ha] at this
              exact this
            simp only [impl_bothDias__impl_AndDia_1.L0, impl_bothDias__impl_AndDia_1.step0, dnlt (show t.length ≤ j by omega), cond_false]
            rw [e, h5]; rfl
          | succ n ih =>
            intro q j acc hn hq hjl ha a1 a2
            obtain ⟨q, rfl⟩ : ∃ p, q = p + 1 := ⟨q - 1, by omega⟩
            have hj : j < t.length := by omega
            have hj' : j < acc.length := by omega
            have hju : j < u.length := by omega
            have b1 : acc[j] = t.getD j false := by
              have := a2 j (Nat.le_refl _)
              rw [List.getElem?_eq_getElem hj, List.getElem?_eq_getElem hj'] at this
              rw [List.getD_eq_getElem?_getD, List.getElem?_eq_getElem hj]
              exact Option.some.inj this
            have b2 : u[j] = u.getD j false := by
              rw [List.getD_eq_getElem?_getD, List.getElem?_eq_getElem hju]; rfl
            have next : impl_bothDias__impl_AndDia_1.L0 (cl k) k a ((t, ()), ()) ((u, ()), ()) q ((j + 1 : Nat) : Int) (acc.set j (opB true (t.getD j false) (u.getD j false))) = some ((mkDia a.1.toNat (bothT true t u), true, ()), ()) := by
              refine ih q (j + 1) _ (by omega) (by omega) (by omega) (by rw [List.length_set, ha]) (fun i hi => ?_) (fun i hi => ?_)
              · rw [List.getElem?_set]
                by_cases e : j = i
                · subst e; rw [if_pos rfl, if_pos hj']
                · rw [if_neg e]; exact a1 i (by omega)
              · rw [List.getElem?_set, if_neg (by omega)]; exact a2 i (by omega)
            simp only [impl_bothDias__impl_AndDia_1.L0, impl_bothDias__impl_AndDia_1.step0, dlt hj, cond_true, dle0, Int.toNat_natCast, decide_eq_true hj', decide_eq_true hju, Bool.and_self, lgn hj', lgn hju, Option.bind_some, ho _ _, ws hj (show t.length ≤ 9223372036854775807 by omega), b1, b2]
            exact next
        refine Ans.of hF ((h1.and (h2.and (h3.and (h4.and (h5.and (And1_ev.and (Ev.ge 1025))))))).mono fun k ⟨h1, h2, h3, h4, h5, ho, hk⟩ => ?_)
        simp only [impl_bothDias__impl_AndDia_1.F, impl_bothDias__impl_AndDia_1.Fm, h1, h2, h3, h4, Option.bind_some, Bool.not_true, cond_false]
        rw [bne_eq_false_iff_eq.2 hv, cond_false]
        exact key k ho h5 t.length k 0 t rfl (by omega) (Nat.zero_le _) rfl (fun i hi => by omega) (fun i hi => rfl)
      · rw [if_neg fun h => hv h.2.2]
        refine Ans.of hF ((h1.and h2).mono fun k ⟨h1, h2⟩ => ?_)
        simp only [impl_bothDias__impl_AndDia_1.F, impl_bothDias__impl_AndDia_1.Fm, h1, h2, Option.bind_some, Bool.not_true, cond_false]
        rw [bne_iff_ne.2 hv]; rfl


def OrK (k : Nat) : Prop := ∀ a b : Bool, cl k 116 s_impl_OrDia_1 (a, b, ()) = some ((opB false a b, ()), ())
theorem Or1_ev : Ev OrK := Ev.succ fun k a b => by
  rw [cl_succ, impl_OrDia_1.F_eq (cl k) k a b]; cases a <;> rfl
theorem impl_OrDia_ans (a b : Dia) (hl : a.2.2.1.length ≤ 1048576) (hl2 : b.2.2.1.length ≤ 1048576) : Ans 57 s_impl_OrDia (a, b, ()) (both false a b, ()) := by
  suffices hh : Ans 11700115 s_impl_bothDias__impl_OrDia_1 (a, b, (), ()) (both false a b, ()) by
    refine Ans.of (fun k => impl_OrDia.F_eq (cl k) k a b) (hh.mono fun k h => ?_)
    simp only [impl_OrDia.F, impl_OrDia.Fm, h, Option.bind_some]
  have hF := fun k => impl_bothDias__impl_OrDia_1.F_eq (cl k) k a b ()
  have h1 := impl_DiaOk_ans a hl
  have h2 := impl_DiaOk_ans b hl2
  unfold both
  cases hd : diaOk a with
  | false =>
    rw [hd] at h1
    rw [if_neg (by simp)]
    refine Ans.of hF (h1.mono fun k h1 => ?_)
    simp only [impl_bothDias__impl_OrDia_1.F, impl_bothDias__impl_OrDia_1.Fm, h1, Option.bind_some, Bool.not_false, cond_true]
    rfl
  | true =>
    rw [hd] at h1
    cases he : diaOk b with
    | false =>
      rw [he] at h2
      rw [if_neg (by simp)]
      refine Ans.of hF ((h1.and h2).mono fun k ⟨h1, h2⟩ => ?_)
      simp only [impl_bothDias__impl_OrDia_1.F, impl_bothDias__impl_OrDia_1.Fm, h1, h2, Option.bind_some, Bool.not_false, Bool.not_true, cond_true, cond_false]
      rfl
    | true =>
      rw [he] at h2
      by_cases hv : a.1 = b.1
      · rw [if_pos ⟨rfl, rfl, hv⟩]
        have ⟨m1, m2⟩ := diaOk_m hd
        have hp := pow10 m1
        have h3 := diaOk_tabI hd hl
        have h4 := diaOk_tabI he hl2
        have ht := tab_len a.1.toNat a.2.2.1 a.2.1
        have hu := tab_len b.1.toNat b.2.2.1 b.2.1
        rw [← hv] at h4 hu
        rw [← hv]
        generalize tab a.1.toNat a.2.2.1 a.2.1 = t at *
        generalize tab a.1.toNat b.2.2.1 b.2.1 = u at *
        have h5 := diaOf_ans a.1.toNat (bothT false t u) m1 (by rw [bothT_len, ht])
        rw [← m2] at h5
        have key : ∀ k, OrK k → cl k 109 s_impl_diaOf (a.1, bothT false t u, ()) = some ((mkDia a.1.toNat (bothT false t u), ()), ()) → ∀ (n q j : Nat) (acc : List Bool), t.length - j = n → n < q → j ≤ t.length → acc.length = t.length → (∀ i, i < j → acc[i]? = some (opB false (t.getD i false) (u.getD i false))) → (∀ i, j ≤ i → acc[i]? = t[i]?) →
            impl_bothDias__impl_OrDia_1.L0 (cl k) k a ((t, ()), ()) ((u, ()), ()) q (j : Int) acc = some ((mkDia a.1.toNat (bothT false t u), true, ()), ()) := by
          intro k ho h5 n
          induction n with
          | zero =>
            intro q j acc hn hq hjl ha a1 a2
            obtain ⟨q, rfl⟩ : ∃ p, q = p + 1 := ⟨q - 1, by omega⟩
            have e : acc = bothT false t u := by
              have := list_of (acc := acc) fun i hi => a1 i (by omega)
              rw [ha] at this
              exact this
            simp only [impl_bothDias__impl_OrDia_1.L0, impl_bothDias__impl_OrDia_1.step0, dnlt (show t.length ≤ j by omega), cond_false]
            rw [e, h5]; rfl
          | succ n ih =>
            intro q j acc hn hq hjl ha a1 a2
            obtain ⟨q, rfl⟩ : ∃ p, q = p + 1 := ⟨q - 1, by omega⟩
            have hj : j < t.length := by omega
            have hj' : j < acc.length := by omega
            have hju : j < u.length := by omega
            have b1 : acc[j] = t.getD j false := by
              have := a2 j (Nat.le_refl _)
              rw [List.getElem?_eq_getElem hj, List.getElem?_eq_getElem hj'] at this
              rw [List.getD_eq_getElem?_getD, List.getElem?_eq_getElem hj]
              exact Option.some.inj this
            have b2 : u[j] = u.getD j false := by
              rw [List.getD_eq_getElem?_getD, List.getElem?_eq_getElem hju]; rfl
            have next : impl_bothDias__impl_OrDia_1.L0 (cl k) k a ((t, ()), ()) ((u, ()), ()) q ((j + 1 : Nat) : Int) (acc.set j (opB false (t.getD j false) (u.getD j false))) = some ((mkDia a.1.toNat (bothT false t u), true, ()), ()) := by
              refine ih q (j + 1) _ (by omega) (by omega) (by omega) (by rw [List.length_set, ha]) (fun i hi => ?_) (fun i hi => ?_)
              · rw [List.getElem?_set]
                by_cases e : j = i
                · subst e; rw [if_pos rfl, if_pos hj']
                · rw [if_neg e]; exact a1 i (by omega)
              · rw [List.getElem?_set, if_neg (by omega)]; exact a2 i (by omega)
            simp only [impl_bothDias__impl_OrDia_1.L0, impl_bothDias__impl_OrDia_1.step0, dlt hj, cond_true, dle0, Int.toNat_natCast, decide_eq_true hj', decide_eq_true hju, Bool.and_self, lgn hj', lgn hju, Option.bind_some, ho _ _, ws hj (show t.length ≤ 9223372036854775807 by omega), b1, b2]
            exact next
        refine Ans.of hF ((h1.and (h2.and (h3.and (h4.and (h5.and (Or1_ev.and (Ev.ge 1025))))))).mono fun k ⟨h1, h2, h3, h4, h5, ho, hk⟩ => ?_)
        simp only [impl_bothDias__impl_OrDia_1.F, impl_bothDias__impl_OrDia_1.Fm, h1, h2, h3, h4, Option.bind_some, Bool.not_true, cond_false]
        rw [bne_eq_false_iff_eq.2 hv, cond_false]
        exact key k ho h5 t.length k 0 t rfl (by omega) (Nat.zero_le _) rfl (fun i hi => by omega) (fun i hi => rfl)
      · rw [if_neg fun h => hv h.2.2]
        refine Ans.of hF ((h1.and h2).mono fun k ⟨h1, h2⟩ => ?_)
        simp only [impl_bothDias__impl_OrDia_1.F, impl_bothDias__impl_OrDia_1.Fm, h1, h2, Option.bind_some, Bool.not_true, cond_false]
        rw [bne_iff_ne.2 hv]; rfl

end Go.Proofs.Ytcmgjdmhemfecaa.Pf
