/- All outcomes: both sides answer the same. Its condition: no list is longer than a law looks at. -/
import Derived.Test.YtjgfofcgmcnblaaGreatPfE3
import Derived.Test.YtjgfofcgmcnblaaGreatPfTC
set_option maxHeartbeats 2000000
set_option linter.all false
namespace Go.Proofs.YtjgfofcgmcnblaaGreat.Pf
open Go Go.Pv
def inA(p:Pg)(m:Nat):List Int:=atF (mx p) (m:Int)
def ins(p:Pg)(n:Nat):List (List Int):=(List.range n).map (inA p)
def ous(p:Pg)(t:Fs)(n:Nat):List Oc:=(List.range n).map fun m=>oc p t (inA p m)
def cN(p:Pg):Nat:=(cntF (mx p)).toNat
theorem ins_succ(p:Pg)(n:Nat):ins p (n+1)=ins p n++[inA p n]:=by
  unfold ins;rw[List.range_succ,List.map_append];rfl
theorem ous_succ(p:Pg)(t:Fs)(n:Nat):ous p t (n+1)=ous p t n++[oc p t (inA p n)]:=by
  unfold ous;rw[List.range_succ,List.map_append];rfl
theorem ins_len(p:Pg)(n:Nat):(ins p n).length=n:=by unfold ins;rw[List.length_map,List.length_range]
theorem ous_len(p:Pg)(t:Fs)(n:Nat):(ous p t n).length=n:=by unfold ous;rw[List.length_map,List.length_range]
section
variable {p:Pg}{t:Fs}(ht:Ok p t)
include ht
theorem inA_wi(m:Nat):Wi p (inA p m):=at_wi ht.hd (Int.natCast_nonneg m)
theorem ous_ok(n:Nat):Fews (ous p t n):=fun o ho=>by
  obtain⟨m,_,rfl⟩:=List.mem_map.1 ho;exact oc_ok ht (inA_wi ht m)
theorem cN_bd:cN p≤1024∧((cN p:Nat):Int)=cntF (mx p):=by
  have:=cnt_bd ht.hd;unfold cN;omega
theorem mx6:(mx p).length≤6:=by
  have:=ht.hd.b;rw[mx_len];omega
theorem table_ans:Ans n_spec_l8Table s_spec_l8Table (p,()) ((ins p (cN p),ous p t (cN p),()),()):=by
  obtain⟨hc,ec⟩:=cN_bd ht;have hC:=count_ans (mx_few ht.hd) (mx6 ht) (cnt_bd ht.hd).2;refine Gv.ans (Gv.of (fun k=>spec_l8Table.F_eq (cl k) k p) ?_);unfold spec_l8Table.F spec_l8Table.Fm;refine Tq.ba (maxes_ans ht.hd) ?_;have key:∀(d j:Nat),cN p-j=d→j≤cN p→Tq (d+1) (fun k q=>spec_l8Table.L0 (cl k) k p ((mx p,()),()) q (j:Int) (ous p t j) (ins p j)) (· =((ins p (cN p),ous p t (cN p),()),())):=by
    intro d
    induction d with
    | zero=>
      intro j hd hj;obtain rfl:j=cN p:=by omega
      refine Tq.succ ?_;show Tq _ (fun k q=>spec_l8Table.step0 (cl k) k ..) _
      unfold spec_l8Table.step0;exact Tq.ba hC (Tq.bf (decide_eq_false (by dsimp only;omega)) (Tq.ret rfl))
    | succ d ih=>
      intro j hd hj;have l1:=ins_len p j;have l2:=ous_len p t j;refine Tq.succ ?_;show Tq _ (fun k q=>spec_l8Table.step0 (cl k) k ..) _
      unfold spec_l8Table.step0;refine Tq.ba hC (Tq.bt (decide_eq_true (by dsimp only;omega)) (Tq.ba (at_ans (mx_few ht.hd) (mx6 ht) (Int.natCast_nonneg j) (by omega)) (Tq.bt (apb (by rw[by23];simp only[List.length_cons,List.length_nil];omega)) ?_)));refine Tq.ba (l6Of_ans ht (inA_wi ht j)) (Tq.bt (apb (by rw[ti_oc];simp only[List.length_cons,List.length_nil];omega)) ?_);rw[ws (n:=cN p) (by omega) (by omega)];have:=ih (j+1) (by omega) (by omega);rw[ins_succ,ous_succ]at this;exact this
  exact Tq.diag (key _ 0 rfl (Nat.zero_le _))
theorem wi_in:∀m,Within ((inA p m).take p.2.1.length) p.2.1∧Within ((inA p m).drop p.2.1.length) p.2.2.1:=inA_wi ht
theorem inputOf_ans {n:Nat}(hn:n≤1024):Ans n_impl_inputOf s_impl_inputOf (p,(n:Int),()) (((inA p n).take p.2.1.length,(inA p n).drop p.2.1.length,()),()):=by
  have hp:=ht.hd;have hb:=hp.b;have e0:mx p=(p.2.1++p.2.2.1).map (·.1):=by unfold mx;rw[List.map_append]
  have hf:=mx_few hp;have hn6:(p.2.1++p.2.2.1).length≤6:=by rw[List.length_append];omega
  have hge:p.2.1.length≤(p.2.1++p.2.2.1).length:=by rw[List.length_append];omega
  have hA:=allIn_ans hp;refine Gv.ans (Gv.of (fun k=>impl_inputOf.F_eq (cl k) k p n) ?_);unfold impl_inputOf.F impl_inputOf.Fm inA;rw[e0]at hf⊢;generalize p.2.1++p.2.2.1=l at*;refine Tq.ba hA ?_;have key:∀(d j:Nat)(n:Int)(acc:List Int),l.length-j=d→0≤n→n≤1024→acc.length=j→j≤l.length→Tq (d+1) (fun k q=>impl_inputOf.L0 (cl k) k p ((l,()),()) q n (j:Int) acc) (· =(((acc++atF ((l.drop j).map (·.1)) n).take p.2.1.length,(acc++atF ((l.drop j).map (·.1)) n).drop p.2.1.length,()),())):=by
    intro d
    induction d with
    | zero=>
      intro j n acc hd h0 h1 h2 h3;refine Tq.succ ?_;show Tq _ (fun k q=>impl_inputOf.step0 (cl k) k ..) _
      unfold impl_inputOf.step0;have e:l.drop j=[]:=List.drop_of_length_le (by omega);rw[e];simp only[List.map_nil,atF,List.append_nil];refine Tq.bf (dnlt (by omega)) ?_;rw[Int.toNat_natCast];have hc:p.2.1.length≤acc.length:=by omega
      refine Tq.bt (dle0 _) (Tq.bt (by simp only[zs];omega) (Tq.bt (apb (by rw[by2];simp only[List.length_take,List.length_drop];omega)) (Tq.bt (dle0 _) (Tq.bt (by simp only[zs];omega) (Tq.bt (apb (by rw[by2];simp only[List.length_take,List.length_drop];omega)) (Tq.ret ?_))))));rw[List.take_of_length_le (show(acc.drop p.2.1.length).length≤acc.length-p.2.1.length by rw[List.length_drop];exact Nat.le_refl _)];rfl
    | succ d ih=>
      intro j n acc hd h0 h1 h2 h3;have hj:j<l.length:=by omega
      have hx:=hf _ (List.mem_map.2 ⟨_,List.getElem_mem hj,rfl⟩);have q0:=Int.tdiv_nonneg h0 (show 0≤l[j].1+1 by omega);have q1:=Int.tdiv_le_self (l[j].1+1) h0;refine Tq.succ ?_;show Tq _ (fun k q=>impl_inputOf.step0 (cl k) k ..) _
      unfold impl_inputOf.step0;refine Tq.bt (dlt hj) (Tq.bt (idx_ok hj) (Tq.some (lg hj) ?_));rw[w64 (x:=l[j].1+1) (by omega) (by omega)];refine Tq.bf (decide_eq_false (by omega)) (Tq.bt (apb (by rw[by2];simp only[List.length_cons,List.length_nil];omega)) (Tq.bf (decide_eq_false (by omega)) ?_));rw[ws hj (by omega),w64 (by omega) (by omega),List.drop_eq_getElem_cons hj];have:=ih (j+1) _ (acc++[n.tmod (l[j].1+1)]) (by omega) q0 (by omega) (by simp;omega) (by omega);rw[List.append_assoc acc,List.singleton_append]at this;exact this
  exact Tq.diag (key _ 0 n [] rfl (by omega) (by omega) rfl (Nat.zero_le _))
theorem runIn_gv(n:Nat):Gv n_impl_ran s_impl_ran (p,(inA p n).take p.2.1.length,(inA p n).drop p.2.1.length,()) (fun(r:(Oc×(ET×Unit))×Unit)=>r.1.1=oc p t (inA p n)):=by
  have h:=wi_in ht n;have:=ran_ans ht h.1 h.2;rw[List.take_append_drop]at this;exact this
theorem bd0:Bd [] 0:=⟨Nat.le_refl _,fun _ h=>by cases h⟩
theorem allTally_gv:Gv n_impl_tallyOf__impl_AllOutcomes_1 s_impl_tallyOf__impl_AllOutcomes_1 (p,(),()) (fun(r:(Tly×Unit)×Unit)=>TI r.1.1 (tal [] (ous p t (cN p)))):=by
  obtain⟨hc,ec⟩:=cN_bd ht;have hM:=many_ans ht.hd;refine Gv.of (fun k=>impl_tallyOf__impl_AllOutcomes_1.F_eq (cl k) k p ()) ?_;unfold impl_tallyOf__impl_AllOutcomes_1.F impl_tallyOf__impl_AllOutcomes_1.Fm;have key:∀(d j:Nat)(st:Tly),cN p-j=d→j≤cN p→TI st (tal [] (ous p t j))→Tq (d+1) (fun k q=>impl_tallyOf__impl_AllOutcomes_1.L0 (cl k) k p q (j:Int) st.2.2.1 st.2.1 st.1) (fun(r:(Tly×Unit)×Unit)=>TI r.1.1 (tal [] (ous p t (cN p)))):=by
    intro d
    induction d with
    | zero=>
      intro j st hd hj hT;obtain rfl:j=cN p:=by omega
      refine Tq.succ ?_;show Tq _ (fun k q=>impl_tallyOf__impl_AllOutcomes_1.step0 (cl k) k ..) _
      unfold impl_tallyOf__impl_AllOutcomes_1.step0;exact Tq.ba hM (Tq.bf (decide_eq_false (by dsimp only;omega)) (Tq.ret hT))
    | succ d ih=>
      intro j st hd hj hT;have hB:Bd (tal [] (ous p t j)) (0+(ous p t j).length):=tal_bd (bd0 ht) (ous_ok ht j);rw[ous_len]at hB;have hY:Ans n_impl_AllOutcomes_1 s_impl_AllOutcomes_1 ((inA p j).take p.2.1.length,(inA p j).drop p.2.1.length,()) ((true,()),()):=
        Gv.ans (Gv.of (fun k=>impl_AllOutcomes_1.F_eq (cl k) k _ _) (Tq.ret rfl))
      refine Tq.succ ?_;show Tq _ (fun k q=>impl_tallyOf__impl_AllOutcomes_1.step0 (cl k) k ..) _
      unfold impl_tallyOf__impl_AllOutcomes_1.step0;refine Tq.ba hM (Tq.bt (decide_eq_true (by dsimp only;omega)) (Tq.ba (inputOf_ans ht (by omega)) (Tq.ba hY (Tq.bt rfl ?_))));refine Tq.bind (runIn_gv ht j).tq ?_;rintro⟨⟨o,v,⟨⟩⟩,⟨⟩⟩ ho;have ho:o=oc p t (inA p j):=ho;subst ho;refine Tq.bind (add_gv hT hB (by omega) (oc_ok ht (inA_wi ht j))).tq ?_;rintro⟨⟨⟩,st',⟨⟩⟩ hT';rw[ws (n:=cN p) (by omega) (by omega)];refine ih (j+1) st' (by omega) (by omega) ?_;rw[ous_succ];unfold tal;rw[List.foldl_append];exact hT'
  exact Tq.diag (key _ 0 (none,[],[],()) rfl (Nat.zero_le _) TI.nil)
end
theorem all_agree {p:Pg}(hsm:Small p):∃l:List Oc,Fews l∧l.length≤1024∧Ans n_spec_AllOutcomes s_spec_AllOutcomes (p,()) ((l,()),())∧Ans n_impl_AllOutcomes s_impl_AllOutcomes (p,()) ((l,()),()):=by
  have a1:=iOk_ans p hsm;have a2:=sOk_ans p hsm;by_cases c:IsOk p
  . rw[bo_t c]at a1 a2;obtain⟨t,ht⟩:=c;have hc:=(cN_bd ht).1;have hl:=ous_len p t (cN p);refine⟨ddF [] (ous p t (cN p)),dd_ok (fun _ h=>by cases h) (ous_ok ht _),?_,Gv.ans (Gv.of (fun k=>spec_AllOutcomes.F_eq (cl k) k p) ?_),Gv.ans (Gv.of (fun k=>impl_AllOutcomes.F_eq (cl k) k p) ?_)⟩
    . have:=dd_len [] (ous p t (cN p));simp only[List.length_nil]at this;omega
    . unfold spec_AllOutcomes.F spec_AllOutcomes.Fm;exact Tq.ba a2 (Tq.bf rfl (Tq.ba (table_ans ht) (Tq.ba (diff_ans (l:=ous p t (cN p)) (ous_ok ht _) (by omega)) (Tq.ret rfl))))
    . unfold impl_AllOutcomes.F impl_AllOutcomes.Fm;refine Tq.ba a1 (Tq.bf rfl (Tq.bind (allTally_gv ht).tq ?_));rintro⟨⟨st,⟨⟩⟩,⟨⟩⟩ hT;have e:st.2.1=_:=hT.list;refine Tq.ret ?_;dsimp only;rw[e,tal_fst];rfl
  . rw[bo_f c]at a1 a2;refine⟨[],(fun _ h=>by cases h),Nat.zero_le _,Gv.ans (Gv.of (fun k=>spec_AllOutcomes.F_eq (cl k) k p) ?_),Gv.ans (Gv.of (fun k=>impl_AllOutcomes.F_eq (cl k) k p) ?_)⟩
    . unfold spec_AllOutcomes.F spec_AllOutcomes.Fm;exact Tq.ba a2 (Tq.bt rfl (Tq.ret rfl))
    . unfold impl_AllOutcomes.F impl_AllOutcomes.Fm;exact Tq.ba a1 (Tq.bt rfl (Tq.ret rfl))
end Go.Proofs.YtjgfofcgmcnblaaGreat.Pf
