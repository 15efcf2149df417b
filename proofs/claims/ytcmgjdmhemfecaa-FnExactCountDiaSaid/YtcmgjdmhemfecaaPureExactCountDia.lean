/- The law on CountDia, over plain values: it answers yes. No condition. -/
import Derived.Test.YtcmgjdmhemfecaaPfI
import Derived.Test.YtcmgjdmhemfecaaPfTLExactCountDia
namespace Go.Proofs.Ytcmgjdmhemfecaa.fnExactCountDia
open Go Go.Pv Pf
theorem pure : ∀ (a0 : Ty.den (.pair (.int .i64) (.pair (.int .i64) (.pair (.slc (.pair (.int .i64) (.pair (.int .i64) (.pair (.int .i64) (.unit))))) (.unit))))) (_ : Fits (.pair (.int .i64) (.pair (.int .i64) (.pair (.slc (.pair (.int .i64) (.pair (.int .i64) (.pair (.int .i64) (.unit))))) (.unit)))) a0), ∃ r : Sg.R Pf.s_laws_FnExactCountDia |>.den, (∃ k, sem Pf.E (fun _ _ => none) k Pf.n_laws_FnExactCountDia Pf.s_laws_FnExactCountDia (a0, ()) = some r) ∧ r.1.1 = true := by
  rintro d ⟨_, _, ⟨f1, _⟩, _⟩
  refine ⟨((true, ()), ()), Ans.sem (Ans.of (fun k => laws_FnExactCountDia.F_eq (cl k) k d) ?_), rfl⟩
  obtain ⟨z, hz, hz2⟩ := szDia_ans d f1
  rcases hz2 with rfl | ⟨h0, hs⟩
  · refine hz.mono fun k hz => ?_
    simp only [laws_FnExactCountDia.F, laws_FnExactCountDia.Fm, hz, Option.bind_some]
    rfl
  refine (hz.and ((spec_CountDia_ans d hs).and ((impl_CountDia_ans d hs).and ((toDia_ans d hs).and (eqDia_ans d hs))))).mono fun k ⟨hz, h1, h2, ht, he⟩ => ?_
  have h1 : cl k 51 s_spec_CountDia ((d.1, d.2.1, d.2.2.1, d.2.2.2), ()) = some ((countDia d, ()), ()) := h1
  have h2 : cl k 52 s_impl_CountDia ((d.1, d.2.1, d.2.2.1, d.2.2.2), ()) = some ((countDia d, ()), ()) := h2
  have he : cl k 27 s_laws_eqDia ((d.1, d.2.1, d.2.2.1, d.2.2.2), (d.1, d.2.1, d.2.2.1, d.2.2.2), ()) = some ((true, ()), ()) := he
  simp only [laws_FnExactCountDia.F, laws_FnExactCountDia.Fm, hz, Option.bind_some, h1, h2, ht, he]
  rw [decide_eq_false (by omega)]
  simp
end Go.Proofs.Ytcmgjdmhemfecaa.fnExactCountDia
