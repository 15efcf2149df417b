/- The law on SomeDia, over plain values: it answers yes. No condition. -/
import Derived.Test.YtcmgjdmhemfecaaPfM
import Derived.Test.YtcmgjdmhemfecaaPfTLExactSomeDia
namespace Go.Proofs.Ytcmgjdmhemfecaa.fnExactSomeDia
open Go Go.Pv Pf
theorem pure : ∀ (a0 : Ty.den (.pair (.int .i64) (.pair (.int .i64) (.pair (.slc (.pair (.int .i64) (.pair (.int .i64) (.pair (.int .i64) (.unit))))) (.unit))))) (_ : Fits (.pair (.int .i64) (.pair (.int .i64) (.pair (.slc (.pair (.int .i64) (.pair (.int .i64) (.pair (.int .i64) (.unit))))) (.unit)))) a0) (a1 : Ty.den (.int .i64)) (_ : Fits (.int .i64) a1), ∃ r : Sg.R Pf.s_laws_FnExactSomeDia |>.den, (∃ k, sem Pf.E (fun _ _ => none) k Pf.n_laws_FnExactSomeDia Pf.s_laws_FnExactSomeDia (a0, (a1, ())) = some r) ∧ r.1.1 = true := by
  rintro d ⟨_, _, ⟨f1, _⟩, _⟩ v _
  refine ⟨((true, ()), ()), Ans.sem (Ans.of (fun k => laws_FnExactSomeDia.F_eq (cl k) k d v) ?_), rfl⟩
  obtain ⟨z, hz, hz2⟩ := szDia_ans d f1
  rcases hz2 with rfl | ⟨h0, hs⟩
  · refine hz.mono fun k hz => ?_
    simp only [laws_FnExactSomeDia.F, laws_FnExactSomeDia.Fm, hz, Option.bind_some]
    rfl
  have hn := someDia_len d v
  have hm := heldDia_ans (someDia d v).1.1 (someDia d v).1.2.1 (someDia d v).1.2.2.1.length (by omega)
  refine (hz.and ((spec_SomeDia_ans d hs v).and ((impl_SomeDia_ans d hs v).and ((toDia_ans d hs).and ((eqDia_ans d hs).and ((eqDia_ans (someDia d v).1 (by omega)).and ((markDia_ans d hs).and ((markDia_ans (someDia d v).1 (by omega)).and hm)))))))).mono fun k ⟨hz, h1, h2, ht, he, he2, hm1, hm2, hh⟩ => ?_
  generalize someDia d v = e at *
  have h1 : cl k 74 s_spec_SomeDia ((d.1, d.2.1, d.2.2.1, d.2.2.2), v, ()) = some (e, ()) := h1
  have h2 : cl k 64 s_impl_SomeDia ((d.1, d.2.1, d.2.2.1, d.2.2.2), v, ()) = some (e, ()) := h2
  have he : cl k 27 s_laws_eqDia ((d.1, d.2.1, d.2.2.1, d.2.2.2), (d.1, d.2.1, d.2.2.1, d.2.2.2), ()) = some ((true, ()), ()) := he
  have he2 : cl k 27 s_laws_eqDia ((e.1.1, e.1.2.1, e.1.2.2.1, e.1.2.2.2), (e.1.1, e.1.2.1, e.1.2.2.1, e.1.2.2.2), ()) = some ((true, ()), ()) := he2
  have hm1 : cl k 28 s_laws_markDia ((d.1, d.2.1, d.2.2.1, d.2.2.2), 1, ()) = some ((1 + 3 * (d.2.2.1.length : Int), ()), (d.1, d.2.1, mKs d.2.2.1.length, ()), ()) := hm1
  have hm2 : cl k 28 s_laws_markDia ((e.1.1, e.1.2.1, e.1.2.2.1, e.1.2.2.2), 1, ()) = some ((1 + 3 * (e.1.2.2.1.length : Int), ()), (e.1.1, e.1.2.1, mKs e.1.2.2.1.length, ()), ()) := hm2
  have hh : cl k 29 s_laws_heldDia ((e.1.1, e.1.2.1, mKs e.1.2.2.1.length, e.1.2.2.2), 1, ()) = some ((1 + 3 * (e.1.2.2.1.length : Int), ()), ()) := hh
  simp only [laws_FnExactSomeDia.F, laws_FnExactSomeDia.Fm, hz, Option.bind_some, h1, h2, ht, he, he2, hm1, hm2, hh]
  rw [decide_eq_false (by omega), decide_eq_false (by omega), decide_eq_false (by omega)]
  simp
end Go.Proofs.Ytcmgjdmhemfecaa.fnExactSomeDia
