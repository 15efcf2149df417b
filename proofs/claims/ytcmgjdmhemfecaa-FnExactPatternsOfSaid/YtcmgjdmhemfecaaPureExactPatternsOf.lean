/- The law on PatternsOf, over plain values: it answers yes. No condition. -/
import Derived.Test.YtcmgjdmhemfecaaPfV
import Derived.Test.YtcmgjdmhemfecaaPfTLExactPatternsOf
namespace Go.Proofs.Ytcmgjdmhemfecaa.fnExactPatternsOf
open Go Go.Pv Pf
theorem pure : ∀ (a0 : Ty.den (.pair (.int .i64) (.pair (.slc (.slc (.int .i64))) (.unit)))) (_ : Fits (.pair (.int .i64) (.pair (.slc (.slc (.int .i64))) (.unit))) a0) (a1 : Ty.den (.slc (.int .i64))) (_ : Fits (.slc (.int .i64)) a1), ∃ r : Sg.R Pf.s_laws_FnExactPatternsOf |>.den, (∃ k, sem Pf.E (fun _ _ => none) k Pf.n_laws_FnExactPatternsOf Pf.s_laws_FnExactPatternsOf (a0, (a1, ())) = some r) ∧ r.1.1 = true := by
  rintro ⟨v, cs, ⟨⟩⟩ ⟨_, ⟨f1, f2⟩, _⟩ (keep : List Int) ⟨g1, _⟩
  refine ⟨((true, ()), ()), Ans.sem (Ans.of (fun k => laws_FnExactPatternsOf.F_eq (cl k) k (v, cs, ()) keep) ?_), rfl⟩
  by_cases hk : keep.length ≤ 1048576
  case neg =>
    refine .all fun k => ?_
    unfold laws_FnExactPatternsOf.F laws_FnExactPatternsOf.Fm
    exact bif_t (decide_eq_true (by omega)) rfl
  obtain ⟨z, hz, hz2⟩ := szCnf_ans (v, cs, ()) f1 fun x hx => (f2 x hx).1
  rcases hz2 with rfl | ⟨h0, hs⟩
  · refine hz.mono fun k hz => ?_
    simp only [laws_FnExactPatternsOf.F, laws_FnExactPatternsOf.Fm, hz, Option.bind_some]
    rw [decide_eq_false (by omega)]
    rfl
  have h1 := spec_PatternsOf_ans (v, cs, ()) hs keep hk
  have h2 := impl_PatternsOf_ans (v, cs, ()) hs keep hk
  have hl : (toI (patM (v, cs, ()) keep)).length ≤ 26 := by rw [toI_len]; have := patM_len (v, cs, ()) keep; omega
  generalize toI (patM (v, cs, ()) keep) = u at h1 h2 hl
  obtain ⟨r, c', h3, h4⟩ := markCnf_ans (v, cs, ()) hs
  have h8 := markInt64S_ans keep (n := r) (by omega) (by omega) hk
  have h5 := markInt64S_ans u (n := 1) (by omega) (by omega) (by omega)
  have h6 := heldInt64S_ans u.length (n := 1) (by omega) (by omega) (by omega)
  have h7 := eqInt64S_ans u (by rw [maxLen_eq]; omega)
  have h9 := eqInt64S_ans keep (by rw [maxLen_eq]; omega)
  refine (hz.and (h1.and (h2.and (h3.and (h5.and (h6.and (h7.and ((toCnf_ans _ hs).and ((eqCnf_ans _ hs).and ((toInt64S_ans keep hk).and (h8.and h9))))))))))).mono fun k ⟨hz, h1, h2, h3, h5, h6, h7, ht, he, hi, h8, h9⟩ => ?_
  simp only [laws_FnExactPatternsOf.F, laws_FnExactPatternsOf.Fm, hz, Option.bind_some, h1, h2, h3, h5, h6, h7, ht, he, hi, h8, h9]
  rw [decide_eq_false (by omega), decide_eq_false (by omega), decide_eq_false (by omega), decide_eq_false (by omega)]
  simp
end Go.Proofs.Ytcmgjdmhemfecaa.fnExactPatternsOf
