/- Values of whole expressions: both sides answer the same. Its condition: the program is right, the expression may stand in it, the environment fits. -/
import Derived.Test.YtjgfofcgmcnblaaGreatPfA2
set_option maxHeartbeats 2000000
set_option linter.all false
namespace Go.Proofs.YtjgfofcgmcnblaaGreat.Pf
open Go Go.Pv
/--What a pile (its top ahead) and a trap become. -/
def evGo(p:Pg)(v:ET):List Int→Int→List Tm→List Int×Int
  |rs,tr,[]=>(rs,tr)
  | rs,tr,t::e=>
    if t.1=0∨t.1=1 then evGo p v (tm0 v t::rs) tr e
    else if t.1≤4 then(match rs with|a::r=>evGo p v ((tm1 p v t a).1::r) (one tr (tm1 p v t a).2) e|[]=>([],tr))
    else(match rs with|b::a::r=>evGo p v ((tm2 p t a b).1::r) (one tr (tm2 p t a b).2) e| _=>([],tr))
def evV(p:Pg)(v:ET)(e:List Tm):Int:=(evGo p v [] 0 e).1.headD 0
def evT(p:Pg)(v:ET)(e:List Tm):Int:=(evGo p v [] 0 e).2
theorem ev_keep(p:Pg)(v:ET):∀(e:List Tm)(rs:List Int)(tr:Int),tr≠0→(evGo p v rs tr e).2=tr
  |[],rs,tr,h=>rfl
  | t ::e,rs,tr,h=>by
    unfold evGo;by_cases c:t.1=0∨t.1=1
    . rw[if_pos c];exact ev_keep p v e _ tr h
    rw[if_neg c];by_cases c:t.1≤4
    . rw[if_pos c];rcases rs with _|⟨a,r⟩
      . rfl
      . dsimp only;rw[one_neg h];exact ev_keep p v e _ tr h
    rw[if_neg c];rcases rs with _|⟨b,_|⟨a,r⟩⟩
    . rfl
    . rfl
    . dsimp only;rw[one_neg h];exact ev_keep p v e _ tr h
theorem tm1_bad(p:Pg)(v:ET)(t:Tm)(a:Int):(tm1 p v t a).2=0∨(tm1 p v t a).2=2:=by
  unfold tm1;by_cases c:t.1=2
  . rw[if_pos c];by_cases c:a<((getl v.2.1 t.2.1).length:Int)
    . rw[if_pos c];exact .inl rfl
    . rw[if_neg c];exact .inr rfl
  . rw[if_neg c];exact .inl rfl
theorem tm2_bad(p:Pg)(t:Tm)(a b:Int):(tm2 p t a b).2=0∨(tm2 p t a b).2=1:=by
  unfold tm2;by_cases c:b=0∧(t.1=8∨t.1=9)
  . rw[if_pos c];exact .inr rfl
  . rw[if_neg c];exact .inl rfl
section
variable {p:Pg}(hp:Hd p){v:ET}(hv:EnvR p v){e:List Tm}(he:Stand p e)
include hp hv he
theorem op_le {j:Nat}(hj:j<e.length):0≤e[j].1∧e[j].1≤16:=by
  have h1:=(he.2.1.1.at hj).1;have h2:=he.2.2 _ (List.getElem_mem hj);unfold takes at h1;by_cases c:e[j].1=0∨e[j].1=1
  . omega
  rw[if_neg c]at h1;by_cases c:2≤e[j].1∧e[j].1≤4
  . omega
  rw[if_neg c]at h1;by_cases c:5≤e[j].1∧e[j].1≤16
  . omega
  rw[if_neg c,if_neg h2]at h1;omega
theorem ev_end:∀(d j:Nat)(rs:List Int)(tr:Int),e.length-j=d→j≤e.length→(rs.length:Int)=dep e j→(∀x∈rs,Vl p.1 x)→(0≤tr∧tr≤2)→
    ∃ x t',evGo p v rs tr (e.drop j)=([x],t')∧Vl p.1 x∧0≤t'∧t'≤2∧
      Tq (d+1) (fun k q=>spec_l5Value.L0 (cl k) k v e ((sz p.1,()),()) q tr (j:Int) rs.reverse) (· =((x,t',()),()))∧
      (tr=0→Tq (d+1) (fun k q=>impl_reckon.L0 (cl k) k p v e false q (j:Int) rs.reverse) (· =((if t'=0 then x else 0,t',()),()))):=by
  have h40:=he.1;intro d
  induction d with
  | zero=>
    intro j rs tr hd hj hl hr ht;obtain rfl:j=e.length:=by omega
    rw[he.2.1.1.last]at hl;obtain⟨x,rfl⟩:∃x,rs=[x]:=List.length_eq_one_iff.1 (by omega)
    rw[List.drop_of_length_le (Nat.le_refl _)];refine⟨x,tr,rfl,hr x List.mem_cons_self,ht.1,ht.2,?_,fun h0=>?_⟩
    . refine Tq.succ ?_;show Tq _ (fun k q=>spec_l5Value.step0 (cl k) k ..) _
      unfold spec_l5Value.step0;refine Tq.bf (dnlt (Nat.le_refl _)) (Tq.bt rfl (Tq.some (lget0 x []) (Tq.ret rfl)))
    . refine Tq.succ ?_;show Tq _ (fun k q=>impl_reckon.step0 (cl k) k ..) _
      unfold impl_reckon.step0;subst h0;refine Tq.bf (dnlt (Nat.le_refl _)) (Tq.bt rfl (Tq.some (lget0 x []) (Tq.ret rfl)))
  | succ d ih=>
    intro j rs tr hd hj hl hr ht;have hj:j<e.length:=by omega
    have h1:=he.2.1.1.at hj;have h2:=dep_le he.2.1.1 j (by omega);have h3:=op_le hp hv he hj;have h4:=dep_succ hj;unfold TmOk at h1;rw[List.drop_eq_getElem_cons hj];unfold evGo;by_cases c:e[j].1=0∨e[j].1=1
    . rw[if_pos c];rw[takes_op.1 c]at h4;obtain⟨x,t',a1,a2,a3,a4,a5,a6⟩:=ih (j+1) (tm0 v e[j]::rs) tr (by omega) (by omega) (by rw[List.length_cons,h4];omega) (fun x hx=>by
        rcases List.mem_cons.1 hx with rfl|hx
        . exact tm0_vl hp hv he hj c
        . exact hr x hx) ht
      rw[List.reverse_cons]at a5 a6;exact⟨x,t',a1,a2,a3,a4,s0 hp hv he hj c (by rw[List.length_reverse];omega) a5,fun h0=>i0 hp hv he hj c (by rw[List.length_reverse];omega) (a6 h0)⟩
    rw[if_neg c];by_cases c:e[j].1≤4
    . rw[if_pos c];rw[takes_op.2.1 (by omega)]at h4 h1;rcases rs with _|⟨a,r⟩
      . rw[List.length_nil]at hl;omega
      rw[List.length_cons]at hl;have ha:=hr a List.mem_cons_self;have hb:=tm1_bad p v e[j] a;obtain⟨x,t',a1,a2,a3,a4,a5,a6⟩:=ih (j+1) ((tm1 p v e[j] a).1::r) (one tr (tm1 p v e[j] a).2) (by omega) (by omega) (by rw[List.length_cons,h4];omega) (fun x hx=>by
        rcases List.mem_cons.1 hx with rfl|hx
        . exact tm1_vl hp hv he hj (by omega) ha
        . exact hr x (List.mem_cons_of_mem _ hx)) (by unfold one;split<;>omega)
      rw[List.reverse_cons]at a5 a6;rw[List.reverse_cons];refine⟨x,t',a1,a2,a3,a4,s1 hp hv he hj (by omega) (by rw[List.length_reverse];omega) ha a5,fun h0=>i1 hp hv he hj (by omega) (by rw[List.length_reverse];omega) ha (fun e0=>a6 (by rw[h0,e0];rfl)) (fun e0=>?_)⟩;have e1:=ev_keep p v (e.drop (j+1)) ((tm1 p v e[j] a).1::r) (one tr (tm1 p v e[j] a).2) (by rw[h0];exact e0);rw[a1]at e1;have e2:t'=(tm1 p v e[j] a).2:=by rw[show t'=_ from e1,h0];rfl
      rw[e2,if_neg e0]
    . rw[if_neg c];rw[takes_op.2.2 (by omega)]at h4 h1;rcases rs with _|⟨b,_|⟨a,r⟩⟩
      . rw[List.length_nil]at hl;omega
      . rw[List.length_cons,List.length_nil]at hl;omega
      rw[List.length_cons,List.length_cons]at hl;have hb:=hr b List.mem_cons_self;have ha:=hr a (List.mem_cons_of_mem _ List.mem_cons_self);have hbad:=tm2_bad p e[j] a b;obtain⟨x,t',a1,a2,a3,a4,a5,a6⟩:=ih (j+1) ((tm2 p e[j] a b).1::r) (one tr (tm2 p e[j] a b).2) (by omega) (by omega) (by rw[List.length_cons,h4];omega) (fun x hx=>by
        rcases List.mem_cons.1 hx with rfl|hx
        . exact tm2_vl hp ha hb
        . exact hr x (List.mem_cons_of_mem _ (List.mem_cons_of_mem _ hx))) (by unfold one;split<;>omega)
      rw[List.reverse_cons]at a5 a6;rw[List.reverse_cons,List.reverse_cons,List.append_assoc,List.singleton_append];refine⟨x,t',a1,a2,a3,a4,s2 hp hv he hj (by omega) (by rw[List.length_reverse];omega) ha hb a5,fun h0=>i2 hp hv he hj (by omega) (by rw[List.length_reverse];omega) ha hb (fun e0=>a6 (by rw[h0,e0];rfl)) (fun e0=>?_)⟩;have e1:=ev_keep p v (e.drop (j+1)) ((tm2 p e[j] a b).1::r) (one tr (tm2 p e[j] a b).2) (by rw[h0];exact e0);rw[a1]at e1;have e2:t'=(tm2 p e[j] a b).2:=by rw[show t'=_ from e1,h0];rfl
      rw[e2,if_neg e0]
theorem sVal_ans:Ans n_spec_l5Value s_spec_l5Value (p,v,e,()) ((evV p v e,evT p v e,()),()):=by
  obtain⟨x,t',a1,a2,a3,a4,a5,a6⟩:=ev_end hp hv he e.length 0 [] 0 rfl (Nat.zero_le _) rfl (fun x hx=>by cases hx) ⟨by omega,by omega⟩;rw[List.drop_zero]at a1;rw[show evV p v e=x by unfold evV;rw[a1];rfl,show evT p v e=t' by unfold evT;rw[a1]];refine Gv.ans (Gv.of (fun k=>spec_l5Value.F_eq (cl k) k p v e) ?_);unfold spec_l5Value.F spec_l5Value.Fm;exact Tq.ba (size_ans p hp.w) (Tq.diag a5)
theorem iVal_ans:Ans n_impl_reckon s_impl_reckon (p,v,e,false,()) ((if evT p v e=0 then evV p v e else 0,evT p v e,()),()):=by
  obtain⟨x,t',a1,a2,a3,a4,a5,a6⟩:=ev_end hp hv he e.length 0 [] 0 rfl (Nat.zero_le _) rfl (fun x hx=>by cases hx) ⟨by omega,by omega⟩;rw[List.drop_zero]at a1;rw[show evV p v e=x by unfold evV;rw[a1];rfl,show evT p v e=t' by unfold evT;rw[a1]];refine Gv.ans (Gv.of (fun k=>impl_reckon.F_eq (cl k) k p v e false) ?_);unfold impl_reckon.F impl_reckon.Fm;exact Tq.diag (a6 rfl)
theorem ev_vl:Vl p.1 (evV p v e)∧0≤evT p v e∧evT p v e≤2:=by
  obtain⟨x,t',a1,a2,a3,a4,_,_⟩:=ev_end hp hv he e.length 0 [] 0 rfl (Nat.zero_le _) rfl (fun x hx=>by cases hx) ⟨by omega,by omega⟩;rw[List.drop_zero]at a1;rw[show evV p v e=x by unfold evV;rw[a1];rfl,show evT p v e=t' by unfold evT;rw[a1]];exact⟨a2,a3,a4⟩
end
end Go.Proofs.YtjgfofcgmcnblaaGreat.Pf
