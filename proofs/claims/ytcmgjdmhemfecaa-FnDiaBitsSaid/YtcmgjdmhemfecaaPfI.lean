/- Dias: CountDia. No condition. -/
import Derived.Test.YtcmgjdmhemfecaaPfH
namespace Go.Proofs.Ytcmgjdmhemfecaa.Pf
open Go Go.Pv

def countDia (d : Dia) : Int := if diaOk d then cnt (tab d.1.toNat d.2.2.1 d.2.1) else -1
theorem countLoopS (k : Nat) (hb : BitK k) (t : List Bool) (hl : t.length ≤ 1048576) : ∀ (n q j : Nat) (c : Int), t.length - j = n → n < q → 0 ≤ c → c ≤ j → j ≤ t.length → spec_CountDia.L0 (cl k) k ((t, ()), ()) q c (j : Int) = some ((c + cnt (t.drop j), ()), ()) := by
  intro n
  induction n with
  | zero =>
    intro q j c hd hq h0 h1 hj
    obtain ⟨q, rfl⟩ : ∃ p, q = p + 1 := ⟨q - 1, by omega⟩
    simp only [spec_CountDia.L0, spec_CountDia.step0, dnlt (show t.length ≤ j by omega), cond_false]
    rw [List.drop_of_length_le (by omega)]
    show _ = some ((c + 0, ()), ())
    rw [Int.add_zero]
  | succ n ih =>
    intro q j c hd hq h0 h1 hj
    obtain ⟨q, rfl⟩ : ∃ p, q = p + 1 := ⟨q - 1, by omega⟩
    have hj : j < t.length := by omega
    have hbit := bit_le t[j]
    simp only [spec_CountDia.L0, spec_CountDia.step0, dlt hj, cond_true, dle0, Int.toNat_natCast, decide_eq_true hj, Bool.and_self, lgn hj, Option.bind_some, hb t[j], ws hj (show t.length ≤ 9223372036854775807 by omega)]
    rw [w64 (by omega) (by omega), ih q (j + 1) (c + bit t[j]) (by omega) (by omega) (by omega) (by omega) (by omega), List.drop_eq_getElem_cons hj]
    show _ = some ((c + (bit t[j] + cnt (t.drop (j + 1))), ()), ())
    rw [Int.add_assoc]
theorem countLoopI (k : Nat) (hb : TruthK k) (t : List Bool) (hl : t.length ≤ 1048576) : ∀ (n q j : Nat) (c : Int), t.length - j = n → n < q → 0 ≤ c → c ≤ j → j ≤ t.length → impl_CountDia.L0 (cl k) k ((t, ()), ()) q c (j : Int) = some ((c + cnt (t.drop j), ()), ()) := by
  intro n
  induction n with
  | zero =>
    intro q j c hd hq h0 h1 hj
    obtain ⟨q, rfl⟩ : ∃ p, q = p + 1 := ⟨q - 1, by omega⟩
    simp only [impl_CountDia.L0, impl_CountDia.step0, dnlt (show t.length ≤ j by omega), cond_false]
    rw [List.drop_of_length_le (by omega)]
    show _ = some ((c + 0, ()), ())
    rw [Int.add_zero]
  | succ n ih =>
    intro q j c hd hq h0 h1 hj
    obtain ⟨q, rfl⟩ : ∃ p, q = p + 1 := ⟨q - 1, by omega⟩
    have hj : j < t.length := by omega
    have hbit := bit_le t[j]
    simp only [impl_CountDia.L0, impl_CountDia.step0, dlt hj, cond_true, dle0, Int.toNat_natCast, decide_eq_true hj, Bool.and_self, lgn hj, Option.bind_some, hb t[j], ws hj (show t.length ≤ 9223372036854775807 by omega)]
    rw [w64 (by omega) (by omega), ih q (j + 1) (c + bit t[j]) (by omega) (by omega) (by omega) (by omega) (by omega), List.drop_eq_getElem_cons hj]
    show _ = some ((c + (bit t[j] + cnt (t.drop (j + 1))), ()), ())
    rw [Int.add_assoc]

/-- What a Dia that is right has. -/
theorem diaOk_at {d : Dia} (h : diaOk d = true) : goodB 1023 d = true ∧ mkDia d.1.toNat (tab d.1.toNat d.2.2.1 d.2.1) = d := by
  unfold diaOk at h
  have ⟨h1, h2⟩ := Bool.and_eq_true_iff.1 h
  exact ⟨h1, of_decide_eq_true h2⟩
theorem diaOk_m {d : Dia} (h : diaOk d = true) : d.1.toNat ≤ 10 ∧ d.1 = (d.1.toNat : Int) := by
  have ⟨h1, _⟩ := diaOk_at h
  have ⟨g0, _⟩ := goodB_at h1
  omega
theorem diaOk_tabS {d : Dia} (h : diaOk d = true) (hl : d.2.2.1.length ≤ 1048576) : Ans 106 s_spec_l13Table (d, ()) ((tab d.1.toNat d.2.2.1 d.2.1, ()), ()) := by
  have ⟨h1, _⟩ := diaOk_at h
  have ⟨g0, g1, g2, g3⟩ := goodB_at h1
  have ⟨m1, m2⟩ := diaOk_m h
  exact l13Table_ans d d.1.toNat m1 m2 hl (goodB_falls h1) g2.1 g2.2
theorem diaOk_tabI {d : Dia} (h : diaOk d = true) (hl : d.2.2.1.length ≤ 1048576) : Ans 110 s_impl_tableOf (d, ()) ((tab d.1.toNat d.2.2.1 d.2.1, ()), ()) := by
  have ⟨h1, _⟩ := diaOk_at h
  have ⟨g0, g1, g2, g3⟩ := goodB_at h1
  have ⟨m1, m2⟩ := diaOk_m h
  exact tableOf_ans d d.1.toNat m1 m2 hl (goodB_falls h1) g2.1 g2.2

theorem spec_CountDia_ans (d : Dia) (hl : d.2.2.1.length ≤ 1048576) : Ans 51 s_spec_CountDia (d, ()) ((countDia d, ()), ()) := by
  have hF := fun k => spec_CountDia.F_eq (cl k) k d
  have h1 := spec_DiaOk_ans d hl
  unfold countDia
  cases hd : diaOk d with
  | false =>
    rw [hd] at h1
    refine Ans.of hF (h1.mono fun k h1 => ?_)
    simp only [spec_CountDia.F, spec_CountDia.Fm, h1, Option.bind_some, Bool.not_false, cond_true]
    rfl
  | true =>
    rw [hd] at h1
    have hp := pow10 (diaOk_m hd).1
    have ht := tab_len d.1.toNat d.2.2.1 d.2.1
    refine Ans.of hF ((h1.and ((diaOk_tabS hd hl).and (l5Bit_ev.and (Ev.ge 1025)))).mono fun k ⟨h1, h2, hb, hk⟩ => ?_)
    simp only [spec_CountDia.F, spec_CountDia.Fm, h1, Option.bind_some, Bool.not_true, cond_false, h2]
    have := countLoopS k hb (tab d.1.toNat d.2.2.1 d.2.1) (by omega) _ k 0 0 rfl (by omega) (Int.le_refl _) (by omega) (by omega)
    rw [List.drop_zero, Int.zero_add] at this
    exact this
theorem impl_CountDia_ans (d : Dia) (hl : d.2.2.1.length ≤ 1048576) : Ans 52 s_impl_CountDia (d, ()) ((countDia d, ()), ()) := by
  have hF := fun k => impl_CountDia.F_eq (cl k) k d
  have h1 := impl_DiaOk_ans d hl
  unfold countDia
  cases hd : diaOk d with
  | false =>
    rw [hd] at h1
    refine Ans.of hF (h1.mono fun k h1 => ?_)
    simp only [impl_CountDia.F, impl_CountDia.Fm, h1, Option.bind_some, Bool.not_false, cond_true]
    rfl
  | true =>
    rw [hd] at h1
    have hp := pow10 (diaOk_m hd).1
    have ht := tab_len d.1.toNat d.2.2.1 d.2.1
    refine Ans.of hF ((h1.and ((diaOk_tabI hd hl).and (truth_ev.and (Ev.ge 1025)))).mono fun k ⟨h1, h2, hb, hk⟩ => ?_)
    simp only [impl_CountDia.F, impl_CountDia.Fm, h1, Option.bind_some, Bool.not_true, cond_false, h2]
    have := countLoopI k hb (tab d.1.toNat d.2.2.1 d.2.1) (by omega) _ k 0 0 rfl (by omega) (Int.le_refl _) (by omega) (by omega)
    rw [List.drop_zero, Int.zero_add] at this
    exact this

end Go.Proofs.Ytcmgjdmhemfecaa.Pf
