/- What a run of a right program on right inputs puts out: both sides answer the same, and it is small. -/
import Derived.Test.YtjgfofcgmcnblaaGreatPfE1
set_option maxHeartbeats 2000000
set_option linter.all false
namespace Go.Proofs.YtjgfofcgmcnblaaGreat.Pf
open Go Go.Pv
def Tame(s:RS):Prop:=∀y∈s.2,0≤y∧y≤255
/--The environment fits,what was put out are values,the code is small. -/
structure Nice (p:Pg) (x:RR):Prop where
  env:EnvR p x.1.1
  vs:Tame x.1
  c:0≤x.2.2∧x.2.2≤255
theorem Nice.thn {p:Pg}{x:RR}{f:RS→RR}(h:Nice p x)(hf:∀s',EnvR p s'.1→Tame s'→Nice p (f s')):Nice p (Pf.thn x f):=by
  rcases thn_eq x f with⟨_,e⟩|⟨_,e⟩<;>rw[e]
  . exact h
  . exact hf x.1 h.env h.vs
section
variable {p:Pg}(hp:Hd p)(hs:StsOk p)
include hp hs
theorem stm_nice {i:Nat}(hi:i<p.2.2.2.2.2.1.length)(h:opAt p.2.2.2.2.2.1 i=0∨opAt p.2.2.2.2.2.1 i=1∨opAt p.2.2.2.2.2.1 i=6∨opAt p.2.2.2.2.2.1 i=7){s:RS}(hv:EnvR p s.1)(ht:Tame s):Nice p (stm p (smAt p.2.2.2.2.2.1 i) s):=by
  have h2:=hs _ (List.getElem_mem hi);have hF:=(stm_fine hp hs hi h hv).env;have hl:=hv.lc;have hN:=h2.2.1.2.2.2.1;rw[←smAt_lt hi]at hN;have ho:=opAt_lt hi;rw[←smAt_lt hi]at ho;have e1:=fun h=>stand_exp hp hs hi h
  have e2:=fun h=>stand_at hp hs hi h
  have hb:=hp.b.2.2.2.2;unfold stm at hF⊢;by_cases c7:(smAt p.2.2.2.2.2.1 i).1=7
  . rw[if_pos c7];have:=hN (.inl c7);exact⟨hv,ht,by dsimp only;omega⟩
  rw[if_neg c7]at hF⊢;by_cases c1:(smAt p.2.2.2.2.2.1 i).1=1
  . rw[if_pos c1]at hF⊢;have v1:=(ev_vl hp hv (e2 (by omega))).2;have v2:=(ev_vl hp hv (e1 (by omega))).2;by_cases t1:evT p s.1 (smAt p.2.2.2.2.2.1 i).2.2.1≠0
    . rw[if_pos t1];exact⟨hv,ht,by dsimp only;omega⟩
    rw[if_neg t1]at hF⊢;by_cases t2:evT p s.1 (smAt p.2.2.2.2.2.1 i).2.2.2.1≠0
    . rw[if_pos t2];exact⟨hv,ht,by dsimp only;omega⟩
    rw[if_neg t2]at hF⊢;by_cases t3:arrAt p (smAt p.2.2.2.2.2.1 i).2.1≤evV p s.1 (smAt p.2.2.2.2.2.1 i).2.2.1
    . rw[if_pos t3];exact⟨hv,ht,by dsimp only;omega⟩
    rw[if_neg t3]at hF⊢;exact⟨hF,ht,by dsimp only;omega⟩
  rw[if_neg c1]at hF⊢;have v2:=ev_vl hp hv (e1 (by omega));by_cases t2:evT p s.1 (smAt p.2.2.2.2.2.1 i).2.2.2.1≠0
  . rw[if_pos t2];exact⟨hv,ht,by dsimp only;omega⟩
  rw[if_neg t2]at hF⊢;by_cases c0:(smAt p.2.2.2.2.2.1 i).1=0
  . rw[if_pos c0]at hF⊢;exact⟨hF,ht,by dsimp only;omega⟩
  . rw[if_neg c0];refine⟨hv,fun y hy=>?_,by dsimp only;omega⟩;rcases List.mem_append.1 hy with h|h
    . exact ht y h
    . rw[List.mem_singleton.1 h];have:=v2.1.1;have:=v2.1.2;omega
omit hp hs in
theorem rep_nice {f:RS→RR}(hf:∀s',EnvR p s'.1→Tame s'→Nice p (f s')):∀(n:Nat){s:RS},EnvR p s.1→Tame s→Nice p (rep f n s)
  |0,s,hv,ht=>⟨hv,ht,by show 0≤(0:Int)∧(0:Int)≤255;omega⟩
  | n+1,s,hv,ht=>by
    have g:=hf s hv ht;unfold rep;by_cases c:(f s).2.1≠0
    . rw[if_pos c];exact g
    . rw[if_neg c];exact rep_nice hf n g.env g.vs
theorem run_nice {t:Fs}{i j:Nat}(h:Seg p.2.2.2.2.2.1 t i j):∀(s:RS),EnvR p s.1→Tame s→Nice p (runF p t s):=by
  induction h with
  |nil=>intro s hv ht;exact⟨hv,ht,by show 0≤(0:Int)∧(0:Int)≤255;omega⟩
  | leaf hi ho hr ih=>
    intro s hv ht;exact(stm_nice hp hs hi (leaf_op hp hs hi ho) hv ht).thn ih
  | @one t r i e j ho ht he hr ih1 ih2=>
    intro s hv hT;have h1:=ht.le;have h2:=opAt_in he (by omega);unfold runF;refine Nice.thn ?_ ih2;by_cases c:opAt p.2.2.2.2.2.1 i=2
    . rw[if_pos c];have v2:=(ev_vl hp hv (stand_exp hp hs (i:=i) (by omega) (by omega))).2;by_cases t2:evT p s.1 (smAt p.2.2.2.2.2.1 i).2.2.2.1≠0
      . rw[if_pos t2];exact⟨hv,hT,by dsimp only;omega⟩
      rw[if_neg t2];by_cases t3:evV p s.1 (smAt p.2.2.2.2.2.1 i).2.2.2.1≠0
      . rw[if_pos t3];exact ih1 s hv hT
      . rw[if_neg t3];exact⟨hv,hT,by dsimp only;omega⟩
    . rw[if_neg c];exact rep_nice ih1 _ hv hT
  | @two t o r i m e j ho ht hot he hr ih1 ih2 ih3=>
    intro s hv hT;have h1:=ht.le;have h3:=hot.le;have h2:=opAt_in he (by omega);unfold runF;refine Nice.thn ?_ ih3;by_cases c:opAt p.2.2.2.2.2.1 i=2
    . rw[if_pos c];have v2:=(ev_vl hp hv (stand_exp hp hs (i:=i) (by omega) (by omega))).2;by_cases t2:evT p s.1 (smAt p.2.2.2.2.2.1 i).2.2.2.1≠0
      . rw[if_pos t2];exact⟨hv,hT,by dsimp only;omega⟩
      rw[if_neg t2];by_cases t3:evV p s.1 (smAt p.2.2.2.2.2.1 i).2.2.2.1≠0
      . rw[if_pos t3];exact ih1 s hv hT
      . rw[if_neg t3];exact ih2 s hv hT
    . rw[if_neg c];have g:=ih1 s hv hT;by_cases t3:(runF p t s).2.1=1∧(runF p t s).2.2=NAt p.2.2.2.2.2.1 m
      . rw[if_pos t3];exact ih2 _ g.env g.vs
      . rw[if_neg t3];exact g
end
/-! ### Outcomes-/
abbrev Oc:=List Int×(Int×(Int×Unit))
def stt(p:Pg)(a:List Int):RS:=((a++zer p.2.2.2.1,p.2.2.2.2.1.map zer,()),[])
def oc(p:Pg)(t:Fs)(a:List Int):Oc:=((runF p t (stt p a)).1.2,(runF p t (stt p a)).2.1,(runF p t (stt p a)).2.2,())
structure OcOk (o:Oc):Prop where
  l:o.1.length≤400
  vs:∀y∈o.1,0≤y∧y≤255
  e:0≤o.2.1∧o.2.1≤255
  c:0≤o.2.2.1∧o.2.2.1≤255
theorem stt_env {p:Pg}(hp:Hd p){a:List Int}(hw:Wi p a):EnvR p (stt p a).1:=by
  have:=start_env hp hw.1 hw.2;unfold startV at this;rw[List.take_append_drop]at this;exact this
theorem oc_ok {p:Pg}{t:Fs}(ht:Ok p t){a:List Int}(hw:Wi p a):OcOk (oc p t a):=by
  have hv:=stt_env ht.hd hw;have F:=run_fine ht.hd ht.st ht.seg (stt p a) hv;have g:=run_nice ht.hd ht.st ht.seg (stt p a) hv (fun y hy=>by cases hy);have h1:=F.out;have h2:=F.end3;have h3:=ht.few;refine⟨?_,g.vs,?_,g.c⟩
  . have:((stt p a).2.length:Int)=0:=rfl;show(runF p t (stt p a)).1.2.length≤400
    omega
  . show 0≤(runF p t (stt p a)).2.1∧(runF p t (stt p a)).2.1≤255
    omega
theorem wi_len {p:Pg}{a:List Int}(hw:Wi p a):a.length=p.2.1.length+p.2.2.1.length:=by
  have h1:=hw.1.1;have h2:=hw.2.1;rw[List.length_take]at h1;rw[List.length_drop]at h2;omega
theorem l6Of_ans {p:Pg}{t:Fs}(ht:Ok p t){a:List Int}(hw:Wi p a):Ans n_spec_l6Of s_spec_l6Of (p,a,()) ((oc p t a,()),()):=by
  have hp:=ht.hd;have hb:=hp.b;have hr:=hp.r.2;have few:=ht.few;have hl:=wi_len hw;have hx:Ans n_spec_l6Run s_spec_l6Run ((p,(stt p a).1,([],0,0,()),false,()),0,(p.2.2.2.2.2.1.length:Int),()) ((),ms p (runF p t (stt p a)),()):=(run_seg hp ht.st ht.seg).a (s:=stt p a) (stt_env hp hw) (by show((0:Nat):Int)+_≤_;omega);refine Gv.ans (Gv.of (fun k=>spec_l6Of.F_eq (cl k) k p a) ?_);unfold spec_l6Of.F spec_l6Of.Fm;refine Tq.bt (apb (by rw[by2];omega)) (Tq.bt (bbt (by omega) (by rw[by2,List.nil_append];omega)) ?_);have key:∀(d j:Nat)(acc:List (List Int)),p.2.2.2.2.1.length-j=d→acc.length=j→acc++(p.2.2.2.2.1.drop j).map zer=p.2.2.2.2.1.map zer→Tq (d+1) (fun k q=>spec_l6Of.L0 (cl k) k p a q (j:Int) acc) (· =((oc p t a,()),())):=by
    intro d
    induction d with
    | zero=>
      intro j acc hd hj he;rw[List.drop_of_length_le (by omega),List.map_nil,List.append_nil]at he;subst he;refine Tq.succ ?_;show Tq _ (fun k q=>spec_l6Of.step0 (cl k) k ..) _
      unfold spec_l6Of.step0;refine Tq.bf (dnlt (by omega)) ?_;rw[List.nil_append];exact Tq.ba hx (Tq.ret rfl)
    | succ d ih=>
      intro j acc hd hj he;have hj2:j<p.2.2.2.2.1.length:=by omega
      have h6:=hr _ (List.getElem_mem hj2);refine Tq.succ ?_;show Tq _ (fun k q=>spec_l6Of.step0 (cl k) k ..) _
      unfold spec_l6Of.step0;refine Tq.bt (dlt hj2) (Tq.bt (dle0 _) (Tq.some (lg hj2) (Tq.bt (mkI (by omega) (by show _*8≤_;omega)) (Tq.bt (apb (by rw[by23];simp only[List.length_cons,List.length_nil];omega)) ?_))));rw[ws hj2 (by omega)];refine ih (j+1) (acc++[zer p.2.2.2.2.1[j]]) (by omega) (by simp[hj]) ?_;rw[map_drop hj2]at he;rw[List.append_assoc,List.singleton_append];exact he
  exact Tq.diag (key _ 0 [] rfl rfl rfl)
theorem ran_ans {p:Pg}{t:Fs}(ht:Ok p t){l s:List Int}(h1:Within l p.2.1)(h2:Within s p.2.2.1):Gv n_impl_ran s_impl_ran (p,l,s,()) (fun(r:(Oc×(ET×Unit))×Unit)=>r.1.1=oc p t (l++s)):=by
  have hp:=ht.hd;have hb:=hp.b;have few:=ht.few;have hl:=h1.1;have hs:=h2.1;have hx:Ans n_impl_machine_do s_impl_machine_do ((p,startV p l s,[],()),t.trs,()) (mr p (runF p t (startV p l s,[]))):=(do_seg hp ht.st ht.seg).a (s:=(startV p l s,[])) (start_env hp h1 h2) (by show((0:Nat):Int)+_≤_;omega);refine Gv.of (fun k=>impl_ran.F_eq (cl k) k p l s) ?_;unfold impl_ran.F impl_ran.Fm;exact Tq.ba (nodes_ok (by omega) ht.seg) (Tq.ba (startAt_ans hp (by omega) (by omega)) (Tq.ba hx (Tq.ret rfl)))
end Go.Proofs.YtjgfofcgmcnblaaGreat.Pf
