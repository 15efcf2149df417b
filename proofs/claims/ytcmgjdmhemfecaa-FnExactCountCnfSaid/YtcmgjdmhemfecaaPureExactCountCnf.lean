/- The law on CountCnf, over plain values: it answers yes. No condition. -/
import Derived.Test.YtcmgjdmhemfecaaPfU
import Derived.Test.YtcmgjdmhemfecaaPfTLExactCountCnf
namespace Go.Proofs.Ytcmgjdmhemfecaa.fnExactCountCnf
open Go Go.Pv Pf
theorem pure : ∀ (a0 : Ty.den (.pair (.int .i64) (.pair (.slc (.slc (.int .i64))) (.unit)))) (_ : Fits (.pair (.int .i64) (.pair (.slc (.slc (.int .i64))) (.unit))) a0), ∃ r : Sg.R Pf.s_laws_FnExactCountCnf |>.den, (∃ k, sem Pf.E (fun _ _ => none) k Pf.n_laws_FnExactCountCnf Pf.s_laws_FnExactCountCnf (a0, ()) = some r) ∧ r.1.1 = true := by
  rintro ⟨v, cs, ⟨⟩⟩ ⟨_, ⟨f1, f2⟩, _⟩
  refine ⟨((true, ()), ()), Ans.sem (Ans.of (fun k => laws_FnExactCountCnf.F_eq (cl k) k (v, cs, ())) ?_), rfl⟩
  obtain ⟨z, hz, hz2⟩ := szCnf_ans (v, cs, ()) f1 fun x hx => (f2 x hx).1
  rcases hz2 with rfl | ⟨h0, hs⟩
  · refine hz.mono fun k hz => ?_
    simp only [laws_FnExactCountCnf.F, laws_FnExactCountCnf.Fm, hz, Option.bind_some]
    rfl
  have h1 := spec_CountCnf_ans (v, cs, ()) hs
  have h2 := impl_CountCnf_ans (v, cs, ()) hs
  have hl : (toI (countM (v, cs, ()))).length ≤ 301 := by rw [toI_len]; have := countM_len (v, cs, ()); omega
  generalize toI (countM (v, cs, ())) = u at h1 h2 hl
  obtain ⟨r, c', h3, h4⟩ := markCnf_ans (v, cs, ()) hs
  have h5 := markInt64S_ans u (n := 1) (by omega) (by omega) (by omega)
  have h6 := heldInt64S_ans u.length (n := 1) (by omega) (by omega) (by omega)
  have h7 := eqInt64S_ans u (by rw [maxLen_eq]; omega)
  refine (hz.and (h1.and (h2.and (h3.and (h5.and (h6.and (h7.and ((toCnf_ans _ hs).and (eqCnf_ans _ hs))))))))).mono fun k ⟨hz, h1, h2, h3, h5, h6, h7, ht, he⟩ => ?_
  simp only [laws_FnExactCountCnf.F, laws_FnExactCountCnf.Fm, hz, Option.bind_some, h1, h2, h3, h5, h6, h7, ht, he]
  rw [decide_eq_false (by omega), decide_eq_false (by omega), decide_eq_false (by omega)]
  simp
end Go.Proofs.Ytcmgjdmhemfecaa.fnExactCountCnf
