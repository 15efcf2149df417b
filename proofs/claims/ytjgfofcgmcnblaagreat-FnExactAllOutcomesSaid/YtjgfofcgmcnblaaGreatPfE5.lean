/- The laws' marks on outcomes; the law FnExactAllOutcomes, over plain values. Its condition: the lists are no longer than Go allows. -/
import Derived.Test.YtjgfofcgmcnblaaGreatPfE4
import Derived.Test.YtjgfofcgmcnblaaGreatPfA10
import Derived.Test.YtjgfofcgmcnblaaGreatPfT9O
set_option maxHeartbeats 2000000
set_option linter.all false
namespace Go.Proofs.YtjgfofcgmcnblaaGreat.Pf
open Go Go.Pv
theorem eqOc_ans(o:Oc)(h:o.1.length≤1048576):Ans n_laws_eqOutcome s_laws_eqOutcome (o,o,()) ((true,()),()):=by
  refine Gv.ans (Gv.of (fun k=>laws_eqOutcome.F_eq (cl k) k o o) ?_);unfold laws_eqOutcome.F laws_eqOutcome.Fm;exact Tq.ba (eqInt64S_ans o.1 h) (Tq.bf rfl (Tq.bf (bne_self_eq_false _) (Tq.bf (bne_self_eq_false _) (Tq.ret rfl))))
theorem eqOcS_ans {l:List Oc}(hl:Fews l)(hn:l.length≤1048576):Ans n_laws_eqOutcomeS s_laws_eqOutcomeS (l,l,()) ((true,()),()):=by
  have key:∀(d j:Nat),l.length-j=d→Tq (d+1) (fun k q=>laws_eqOutcomeS.L0 (cl k) k l l q (j:Int)) (· =((true,()),())):=by
    intro d
    induction d with
    | zero=>
      intro j hd;refine Tq.succ ?_;show Tq _ (fun k q=>laws_eqOutcomeS.step0 (cl k) k ..) _
      unfold laws_eqOutcomeS.step0;exact Tq.bf (dnlt (by omega)) (Tq.ret rfl)
    | succ d ih=>
      intro j hd;have hj:j<l.length:=by omega
      have ho:=(hl _ (List.getElem_mem hj)).l;refine Tq.succ ?_;show Tq _ (fun k q=>laws_eqOutcomeS.step0 (cl k) k ..) _
      unfold laws_eqOutcomeS.step0;refine Tq.bt (dlt hj) (Tq.bt (dle0 j) (Tq.some (lg hj) (Tq.bt (dle0 j) (Tq.some (lg hj) (Tq.ba (eqOc_ans l[j] (by omega)) (Tq.bf rfl ?_))))));rw[ws hj (by omega)];exact ih (j+1) (by omega)
  refine Gv.ans (Gv.of (fun k=>laws_eqOutcomeS.F_eq (cl k) k l l) ?_);unfold laws_eqOutcomeS.F laws_eqOutcomeS.Fm;exact Tq.bf (bne_self_eq_false _) (Tq.diag (key _ 0 rfl))
/-! ### Marks on outcomes-/
def MkO:List Oc→Int→Int→Prop
  |[],k,z=>k=z
  |o::l,k,z=>Mk o.1 k∧o.1.length≤400∧o.2.1=k+o.1.length∧o.2.2.1=k+o.1.length+1∧MkO l (k+o.1.length+2) z
theorem MkO.app:∀{l:List Oc}{k z:Int}{o:Oc},MkO l k z→Mk o.1 z→o.1.length≤400→o.2.1=z+o.1.length→o.2.2.1=z+o.1.length+1→MkO (l++[o]) k (z+o.1.length+2)
  | [],k,z,o,h,h1,h2,h3,h4=>by
    have h:k=z:=h;subst h;exact⟨h1,h2,h3,h4,rfl⟩
  |b::l,k,z,o,h,h1,h2,h3,h4=>⟨h.1,h.2.1,h.2.2.1,h.2.2.2.1,MkO.app h.2.2.2.2 h1 h2 h3 h4⟩
abbrev RO:=(Int×Unit)×(List Oc×Unit)
theorem markO_loop:∀(d j:Nat)(done rest:List Oc)(z:Int),rest.length=d→done.length=j→j+d≤1024→(∀x∈rest,x.1.length≤400)→MkO done 1 z→1≤z→z≤1+402*j→
    Tq (d+1) (fun k q=>laws_markOutcomeS.L0 (cl k) k q z (j:Int) (done++rest)) (fun(r:RO)=>∃l' z',r=((z',()),l',())∧l'.length≤1024∧MkO l' 1 z'∧1≤z'∧z'≤500000):=by
  intro d
  induction d with
  | zero=>
    intro j done rest z hr hj hd hx hM hz hz2;obtain rfl:=List.length_eq_zero_iff.1 hr;rw[List.append_nil];refine Tq.succ ?_;show Tq _ (fun k q=>laws_markOutcomeS.step0 (cl k) k ..) _
    unfold laws_markOutcomeS.step0;exact Tq.bf (dnlt (by omega)) (Tq.ret ⟨done,z,rfl,by omega,hM,hz,by omega⟩)
  | succ d ih=>
    intro j done rest z hr hj hd hx hM hz hz2;rcases rest with _|⟨a,rest⟩
    . rw[List.length_nil]at hr;omega
    rw[List.length_cons]at hr;have h6:=hx a List.mem_cons_self;have hlen:∀b:Oc,(done++b::rest).length=j+(d+1):=fun b=>by rw[List.length_append,List.length_cons];omega
    have hget:∀b:Oc,lget (done++b::rest) j=some b:=fun b=>by
      unfold lget;rw[List.getElem?_append_right (by omega),show j-done.length=0 by omega];rfl
    have hset:∀b c:Oc,(done++b::rest).set j c=done++c::rest:=fun b c=>by
      rw[List.set_append_right _ _ (by omega),show j-done.length=0 by omega,List.set_cons_zero]
    refine Tq.succ ?_;show Tq _ (fun k q=>laws_markOutcomeS.step0 (cl k) k ..) _
    unfold laws_markOutcomeS.step0;rw[Int.toNat_natCast];refine Tq.bt (dlt (by rw[hlen];omega)) (Tq.bt (idx2 (by rw[hlen];omega)) (Tq.some (hget a) (Tq.bind (mark_gv a.1 z (by omega) (by omega) (by omega)).tq ?_)));rintro y ⟨l',rfl,h1,h2⟩
    try dsimp only
    refine Tq.some (hget a) ?_
    try dsimp only
    rw[hset];refine Tq.bt (idx2 (by rw[hlen];omega)) (Tq.some (hget _) ?_)
    try dsimp only
    rw[hset];refine Tq.bt (idx2 (by rw[hlen];omega)) (Tq.some (hget _) ?_)
    try dsimp only
    rw[hset,ws (n:=1025) (by omega) (by omega),w64 (x:=z+a.1.length+1) (by omega) (by omega),w64 (by omega) (by omega)];have hM2:=MkO.app (o:=(l',z+(a.1.length:Int),z+(a.1.length:Int)+1,())) hM h2 (by dsimp only;omega) (by dsimp only;rw[h1]) (by dsimp only;rw[h1]);dsimp only at hM2;rw[h1]at hM2;have:=ih (j+1) (done++[(l',z+(a.1.length:Int),z+(a.1.length:Int)+1,())]) rest (z+a.1.length+2) (by omega) (by simp;omega) (by omega) (fun x hx2=>hx x (List.mem_cons_of_mem _ hx2)) hM2 (by omega) (by omega);rw[List.append_assoc,List.singleton_append,show z+(a.1.length:Int)+2=z+a.1.length+1+1 by omega]at this;exact this
theorem heldO_loop(l:List Oc)(hl:l.length≤1024)(z:Int):∀(d j:Nat)(k0:Int),l.length-j=d→0≤k0→k0≤1+402*j→MkO (l.drop j) k0 z→
    Tq (d+1) (fun k q=>laws_heldOutcomeS.L0 (cl k) k l q k0 (j:Int)) (· =((z,()),())):=by
  intro d
  induction d with
  | zero=>
    intro j k0 hd h0 h2 hM;rw[List.drop_of_length_le (by omega)]at hM;have hM:k0=z:=hM;subst hM;refine Tq.succ ?_;show Tq _ (fun k q=>laws_heldOutcomeS.step0 (cl k) k ..) _
    unfold laws_heldOutcomeS.step0;exact Tq.bf (dnlt (by omega)) (Tq.ret rfl)
  | succ d ih=>
    intro j k0 hd h0 h2 hM;have hj:j<l.length:=by omega
    rw[List.drop_eq_getElem_cons hj]at hM;obtain⟨m1,m2,m3,m4,m5⟩:=hM;refine Tq.succ ?_;show Tq _ (fun k q=>laws_heldOutcomeS.step0 (cl k) k ..) _
    unfold laws_heldOutcomeS.step0;refine Tq.bt (dlt hj) (Tq.bt (dle0 j) (Tq.some (lg hj) (Tq.ba (held_ans l[j].1 k0 h0 (by omega) (by omega) m1) (Tq.bf (decide_eq_false (by dsimp only;omega)) ?_))))
    try dsimp only
    rw[w64 (x:=k0+l[j].1.length+1) (by omega) (by omega),w64 (x:=k0+l[j].1.length+1+1) (by omega) (by omega),ws hj (by omega)];refine Tq.bt (dle0 j) (Tq.some (lg hj) (Tq.bf (bne_eq_false_iff_eq.2 m3) (Tq.bt (dle0 j) (Tq.some (lg hj) (Tq.bf (bne_eq_false_iff_eq.2 m4) ?_)))));rw[show k0+(l[j].1.length:Int)+1+1=k0+l[j].1.length+2 by omega];exact ih (j+1) _ (by omega) (by omega) (by omega) m5
theorem markO_gv {l:List Oc}(hl:Fews l)(hn:l.length≤1024):Gv n_laws_markOutcomeS s_laws_markOutcomeS (l,1,()) (fun(r:RO)=>∃z l',r=((z,()),l',())∧0≤z∧Ans n_laws_heldOutcomeS s_laws_heldOutcomeS (l',1,()) ((z,()),())):=by
  refine Gv.of (fun k=>laws_markOutcomeS.F_eq (cl k) k l 1) ?_;unfold laws_markOutcomeS.F laws_markOutcomeS.Fm;refine(Tq.diag (markO_loop l.length 0 [] l 1 rfl rfl (by omega) (fun x hx=>(hl x hx).l) rfl (Int.le_refl _) (by omega))).mono ?_;rintro y ⟨l',z',rfl,h1,h2,h3,h4⟩;refine⟨z',l',rfl,by omega,Gv.ans (Gv.of (fun k=>laws_heldOutcomeS.F_eq (cl k) k l' 1) ?_)⟩;unfold laws_heldOutcomeS.F laws_heldOutcomeS.Fm;exact Tq.diag (heldO_loop l' h1 z' _ 0 1 rfl (by omega) (by omega) h2)
end Go.Proofs.YtjgfofcgmcnblaaGreat.Pf
