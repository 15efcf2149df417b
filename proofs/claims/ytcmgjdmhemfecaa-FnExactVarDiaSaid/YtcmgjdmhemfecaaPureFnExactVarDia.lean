/- The program's VarDia returns what the reference's returns, for all arguments: no condition. -/
import Derived.Test.YtcmgjdmhemfecaaPFnExactVarDiax2
namespace Go.Proofs.Ytcmgjdmhemfecaa.Pure
open Go.RowKit Go.Proofs.Ytcmgjdmhemfecaa.PFnExactVarDia Go.Proofs.YtcmgjdmhemfecaaW.PrintWords Go.Proofs.YtcmgjdmhemfecaaW.PrintLast
set_option linter.unusedSimpArgs false

theorem w64 {x : Int} (h0 : -9223372036854775808 ≤ x) (h1 : x ≤ 9223372036854775807) : wrap64 x = x := by
  unfold wrap64; omega

theorem varSame (a0 a1 : Int) (h0 : (Lit.int .i64 a0).wf = true) : spec_VarDia.f a0 a1 = impl_VarDia.f a0 a1 := by
  have hb : -9223372036854775808 ≤ a0 ∧ a0 ≤ 9223372036854775807 := by
    have hmin : IntKind.i64.min = -9223372036854775808 := rfl
    have hmax : IntKind.i64.max = 9223372036854775807 := rfl
    simp only [Lit.wf, Bool.and_eq_true, decide_eq_true_eq] at h0
    omega
  unfold spec_VarDia.f impl_VarDia.f spec_l1In.f
  by_cases c0 : a0 < 0
  · rw [if_pos c0, if_neg (by omega)]; rfl
  · rw [if_neg c0, if_pos (by omega)]
    by_cases c1 : a0 > 10
    · rw [if_pos c1]; simp; omega
    · rw [if_neg c1, w64 (by omega) (by omega)]
      have e : decide (a0 ≤ 10) = true := by simp; omega
      rw [e]; simp only [Option.bind_some, if_true]
      by_cases c2 : a1 < 0
      · rw [if_pos c2, if_neg (by omega)]; rfl
      · rw [if_neg c2, if_pos (by omega)]
        by_cases c3 : a1 ≥ a0
        · rw [if_pos c3]; simp; omega
        · rw [if_neg c3]; simp; omega

theorem tail0 (a0 a1 : Int) (n m : Int) (b : Bool) (hi : impl_VarDia.f a0 a1 = some (n, m, [], b)) (hs : spec_VarDia.f a0 a1 = some (n, m, [], b)) :
    laws_FnExactVarDia.f 5 a0 a1 = some true := by
  unfold laws_FnExactVarDia.f
  rw [hi, hs]
  simp [laws_eqDia.f, laws_eqKnotS.f, laws_eqKnotS.l0, laws_FnExactVarDia.j0, laws_FnExactVarDia.j1, laws_markDia.f, laws_markKnotS.f, laws_markKnotS.l0, laws_heldDia.f, laws_heldKnotS.f, laws_heldKnotS.l0, hi]

theorem tail1 (a0 a1 : Int) (n m x y z : Int) (b : Bool) (hi : impl_VarDia.f a0 a1 = some (n, m, [⟨x, y, z⟩], b)) (hs : spec_VarDia.f a0 a1 = some (n, m, [⟨x, y, z⟩], b)) :
    laws_FnExactVarDia.f 6 a0 a1 = some true := by
  unfold laws_FnExactVarDia.f
  rw [hi, hs]
  simp [laws_eqDia.f, laws_eqKnotS.f, laws_eqKnotS.l0, laws_eqKnot.f, laws_FnExactVarDia.j0, laws_FnExactVarDia.j1, laws_markDia.f, laws_markKnotS.f, laws_markKnotS.l0, laws_heldDia.f, laws_heldKnotS.f, laws_heldKnotS.l0, hi, rd_T92, wrap64]

theorem FnExactVarDia : laws_FnExactVarDia.Pure := by
  intro a0 a1 h0 h1
  have hs := varSame a0 a1 h0
  have hc : (∃ n m b, impl_VarDia.f a0 a1 = some (n, m, [], b)) ∨ (∃ n m x y z b, impl_VarDia.f a0 a1 = some (n, m, [⟨x, y, z⟩], b)) := by
    unfold impl_VarDia.f
    by_cases c0 : a0 < 0
    · rw [if_pos c0]; exact .inl ⟨_, _, _, rfl⟩
    by_cases c1 : a0 > 10
    · rw [if_neg c0, if_pos c1]; exact .inl ⟨_, _, _, rfl⟩
    by_cases c2 : a1 < 0
    · rw [if_neg c0, if_neg c1, if_pos c2]; exact .inl ⟨_, _, _, rfl⟩
    by_cases c3 : a1 ≥ a0
    · rw [if_neg c0, if_neg c1, if_neg c2, if_pos c3]; exact .inl ⟨_, _, _, rfl⟩
    · rw [if_neg c0, if_neg c1, if_neg c2, if_neg c3]; exact .inr ⟨_, _, _, _, _, _, rfl⟩
  rcases hc with ⟨n, m, b, hi⟩ | ⟨n, m, x, y, z, b, hi⟩
  · exact ⟨5, tail0 a0 a1 n m b hi (hs.trans hi)⟩
  · exact ⟨6, tail1 a0 a1 n m x y z b hi (hs.trans hi)⟩

end Go.Proofs.Ytcmgjdmhemfecaa.Pure
