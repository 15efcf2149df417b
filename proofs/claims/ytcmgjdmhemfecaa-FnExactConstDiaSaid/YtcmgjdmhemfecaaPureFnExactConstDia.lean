/- The program's ConstDia returns what the reference's returns, for all arguments: no condition. -/
import Derived.Test.YtcmgjdmhemfecaaPFnExactConstDiax2
namespace Go.Proofs.Ytcmgjdmhemfecaa.Pure
open Go.RowKit Go.Proofs.Ytcmgjdmhemfecaa.PFnExactConstDia Go.Proofs.YtcmgjdmhemfecaaW.PrintWords Go.Proofs.YtcmgjdmhemfecaaW.PrintLast
set_option linter.unusedSimpArgs false

theorem constSame (a0 : Int) (a1 : Bool) : spec_ConstDia.f a0 a1 = impl_ConstDia.f a0 a1 := by
  have hb : spec_l5Bit.f a1 = impl_truth.f a1 := by cases a1 <;> rfl
  unfold spec_ConstDia.f impl_ConstDia.f spec_l1In.f
  by_cases c0 : a0 < 0
  · rw [if_pos c0, if_neg (by omega)]; rfl
  · rw [if_neg c0, if_pos (by omega)]
    by_cases c1 : a0 > 10
    · rw [if_pos c1]; simp; omega
    · rw [if_neg c1]
      have e : decide (a0 ≤ 10) = true := by simp; omega
      rw [e]; simp only [Option.bind_some, if_true]; rw [hb]

theorem constTail0 (a0 : Int) (a1 : Bool) (n m : Int) (b : Bool) (hi : impl_ConstDia.f a0 a1 = some (n, m, [], b)) (hs : spec_ConstDia.f a0 a1 = some (n, m, [], b)) :
    laws_FnExactConstDia.f 5 a0 a1 = some true := by
  unfold laws_FnExactConstDia.f
  rw [hi, hs]
  simp [laws_eqDia.f, laws_eqKnotS.f, laws_eqKnotS.l0, laws_FnExactConstDia.j0, laws_FnExactConstDia.j1, laws_markDia.f, laws_markKnotS.f, laws_markKnotS.l0, laws_heldDia.f, laws_heldKnotS.f, laws_heldKnotS.l0, hi]

theorem FnExactConstDia : laws_FnExactConstDia.Pure := by
  intro a0 a1 h0
  have hs := constSame a0 a1
  have hc : ∃ n m b, impl_ConstDia.f a0 a1 = some (n, m, [], b) := by
    unfold impl_ConstDia.f
    by_cases c0 : a0 < 0
    · rw [if_pos c0]; exact ⟨_, _, _, rfl⟩
    by_cases c1 : a0 > 10
    · rw [if_neg c0, if_pos c1]; exact ⟨_, _, _, rfl⟩
    · rw [if_neg c0, if_neg c1]; unfold impl_truth.f
      cases a1
      · exact ⟨_, _, _, rfl⟩
      · exact ⟨_, _, _, rfl⟩
  obtain ⟨n, m, b, hi⟩ := hc
  exact ⟨5, constTail0 a0 a1 n m b hi (hs.trans hi)⟩

end Go.Proofs.Ytcmgjdmhemfecaa.Pure
