/- The law on IsModel, over plain values: it answers yes. No condition. -/
import Derived.Test.YtcmgjdmhemfecaaPfE
import Derived.Test.YtcmgjdmhemfecaaPfTLExactIsModel
namespace Go.Proofs.Ytcmgjdmhemfecaa.fnExactIsModel
open Go Go.Pv Pf
theorem pure : ∀ (a0 : Ty.den (.pair (.int .i64) (.pair (.slc (.slc (.int .i64))) (.unit)))) (_ : Fits (.pair (.int .i64) (.pair (.slc (.slc (.int .i64))) (.unit))) a0) (a1 : Ty.den (.slc (.bool))) (_ : Fits (.slc (.bool)) a1), ∃ r : Sg.R Pf.s_laws_FnExactIsModel |>.den, (∃ k, sem Pf.E (fun _ _ => none) k Pf.n_laws_FnExactIsModel Pf.s_laws_FnExactIsModel (a0, (a1, ())) = some r) ∧ r.1.1 = true := by
  rintro ⟨v, cs, ⟨⟩⟩ ⟨_, ⟨f1, f2⟩, _⟩ bits ⟨g1, _⟩
  refine ⟨((true, ()), ()), Ans.sem (Ans.of (fun k => laws_FnExactIsModel.F_eq (cl k) k (v, cs, ()) bits) ?_), rfl⟩
  have g1 : List.length bits ≤ maxLen := g1
  by_cases hb : List.length bits ≤ 1048576
  case neg =>
    refine .all fun k => ?_
    unfold laws_FnExactIsModel.F laws_FnExactIsModel.Fm
    rw [decide_eq_true (by omega)]; rfl
  obtain ⟨z, hz, hz2⟩ := szCnf_ans (v, cs, ()) f1 fun x hx => (f2 x hx).1
  rcases hz2 with rfl | ⟨h0, hs⟩
  · refine hz.mono fun k hz => ?_
    simp only [laws_FnExactIsModel.F, laws_FnExactIsModel.Fm, hz, Option.bind_some]
    rw [decide_eq_false (by omega)]
    rfl
  have h1 := spec_IsModel_ans (v, cs, ()) hs bits
  have h2 := impl_IsModel_ans (v, cs, ()) hs bits
  have h3 := toBoolS_ans bits hb
  have h4 := eqBoolS_ans bits g1
  refine (hz.and (h1.and (h2.and (h3.and (h4.and ((toCnf_ans _ hs).and (eqCnf_ans _ hs))))))).mono fun k ⟨hz, h1, h2, h3, h4, ht, he⟩ => ?_
  simp only [laws_FnExactIsModel.F, laws_FnExactIsModel.Fm, hz, Option.bind_some, h1, h2, h3, h4, ht, he]
  rw [decide_eq_false (by omega), decide_eq_false (by omega)]
  simp
end Go.Proofs.Ytcmgjdmhemfecaa.fnExactIsModel
