/- The law FnExactAllOutcomes, over plain values. Its condition: the lists are no longer than Go allows. -/
import Derived.Test.YtjgfofcgmcnblaaGreatPfE5
import Derived.Test.YtjgfofcgmcnblaaGreatPfTLExactAllOutcomes
set_option maxHeartbeats 2000000
set_option linter.all false
namespace Go.Proofs.YtjgfofcgmcnblaaGreat.Pf
open Go Go.Pv
theorem allOutcomes_law(p:Pg)(hl:Lens p):Ans n_laws_FnExactAllOutcomes s_laws_FnExactAllOutcomes (p,()) ((true,()),()):=by
  refine Gv.ans (Gv.of (fun k=>laws_FnExactAllOutcomes.F_eq (cl k) k p) ?_);unfold laws_FnExactAllOutcomes.F laws_FnExactAllOutcomes.Fm;refine Tq.bind (szProg_gv p hl).tq fun(y:(Int×Unit)×Unit) hy=>?_
  refine Tq.bif (fun _=>Tq.ret rfl) fun h0=>?_
  have h0:¬y.1.1<0:=of_decide_eq_false h0;have hs:=hy.resolve_left h0;obtain⟨l,l1,l2,a1,a2⟩:=all_agree hs;have tp:=toProg_ans p hs;have ee:=eqOcS_ans l1 (by omega);have ep:=eqProg_ans p hs;refine Tq.ba tp (Tq.ba a1 (Tq.ba tp (Tq.ba a2 (Tq.ba ee (Tq.bf rfl (Tq.ba tp (Tq.ba ep (Tq.bf rfl ?_))))))));refine Tq.bind (markP_gv p hs).tq ?_;rintro y ⟨z,p',rfl,z0,z1⟩;refine Tq.bf (decide_eq_false (by dsimp only;omega)) (Tq.ba ee (Tq.bf rfl ?_));refine Tq.bind (markO_gv l1 l2).tq ?_;rintro y ⟨u,v',rfl,u0,hH⟩;refine Tq.ba hH (Tq.bf (decide_eq_false (by dsimp only;omega)) (Tq.bf (bne_self_eq_false _) ?_));exact Tq.ba tp (Tq.ba a2 (Tq.ba ee (Tq.bf rfl (Tq.ba hH (Tq.bf (decide_eq_false (by dsimp only;omega)) (Tq.bf (bne_self_eq_false _) (Tq.ret rfl)))))))
end Go.Proofs.YtjgfofcgmcnblaaGreat.Pf
