/- The law FnExactAfterOf, over plain values. Its condition: the lists are no longer than Go allows. -/
import Derived.Test.YtafgkoelefpacaaPfA9
import Derived.Test.YtafgkoelefpacaaPfA10
import Derived.Test.YtafgkoelefpacaaPfTLExactAfterOf
set_option maxHeartbeats 2000000
set_option linter.all false
namespace Go.Proofs.Ytafgkoelefpacaa.Pf
open Go Go.Pv
theorem afterOf_law (p : Pg) (l s : List Int) (hl : Lens p) (h1 : l.length ≤ maxLen) (h2 : s.length ≤ maxLen) : Ans n_laws_FnExactAfterOf s_laws_FnExactAfterOf (p, l, s, ()) ((true, ()), ()) := by
  refine Gv.ans (Gv.of (fun k => laws_FnExactAfterOf.F_eq (cl k) k p l s) ?_)
  unfold laws_FnExactAfterOf.F laws_FnExactAfterOf.Fm
  refine Tq.bif (fun _ => Tq.ret rfl) fun c1 => Tq.bif (fun _ => Tq.ret rfl) fun c2 => ?_
  have c1 := of_decide_eq_false c1
  have c2 := of_decide_eq_false c2
  have b1 : l.length ≤ 1048576 := by omega
  have b2 : s.length ≤ 1048576 := by omega
  refine Tq.bind (szProg_gv p hl).tq fun (y : (Int × Unit) × Unit) hy => ?_
  refine Tq.bif (fun _ => Tq.ret rfl) fun h0 => ?_
  have h0 : ¬ y.1.1 < 0 := of_decide_eq_false h0
  have hs := hy.resolve_left h0
  obtain ⟨v, b, ⟨v1, v2, v3⟩, a1, a2⟩ := after_agree hs b1 b2
  have tp := toProg_ans p hs
  have t1 := toInt64S_ans l b1
  have t2 := toInt64S_ans s b2
  have ee := eqEnv_ans v (by omega) (by omega) (fun x hx => by have := v3 x hx; omega)
  have ep := eqProg_ans p hs
  have e1 := eqInt64S_ans l b1
  have e2 := eqInt64S_ans s b2
  have bb : (!b == b) = false := by cases b <;> rfl
  refine Tq.ba tp (Tq.ba t1 (Tq.ba t2 (Tq.ba a1 (Tq.ba tp (Tq.ba t1 (Tq.ba t2 (Tq.ba a2 (Tq.ba ee (Tq.bf rfl (Tq.bf bb ?_))))))))))
  refine Tq.ba tp (Tq.ba ep (Tq.bf rfl (Tq.ba t1 (Tq.ba e1 (Tq.bf rfl (Tq.ba t2 (Tq.ba e2 (Tq.bf rfl ?_))))))))
  refine Tq.bind (markP_gv p hs).tq ?_
  rintro y ⟨z, p', rfl, z0, z1⟩
  refine Tq.bind (mark_gv l z z0 (by omega) b1).tq ?_
  rintro y ⟨l1, rfl, _, _⟩
  refine Tq.bind (mark_gv s (z + (l.length : Int)) (by omega) (by omega) b2).tq ?_
  rintro y ⟨l2, rfl, _, _⟩
  refine Tq.bf (decide_eq_false (by dsimp only; omega)) (Tq.ba ee (Tq.bf rfl (Tq.bf bb ?_)))
  refine Tq.bind (markEnv_gv v v1 v2 v3).tq ?_
  rintro y ⟨u, v', rfl, u0, hH⟩
  refine Tq.ba hH (Tq.bf (decide_eq_false (by dsimp only; omega)) (Tq.bf (bne_self_eq_false _) ?_))
  refine Tq.ba tp (Tq.ba t1 (Tq.ba t2 (Tq.ba a2 (Tq.ba ee (Tq.bf rfl (Tq.bf bb (Tq.ba hH (Tq.bf (decide_eq_false (by dsimp only; omega)) (Tq.bf (bne_self_eq_false _) (Tq.ret rfl))))))))))
end Go.Proofs.Ytafgkoelefpacaa.Pf
