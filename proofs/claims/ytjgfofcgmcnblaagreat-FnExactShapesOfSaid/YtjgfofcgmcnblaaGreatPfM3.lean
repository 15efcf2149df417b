/- Printed texts of functions, and what they answer: part 3. No condition but those of each. -/
import Derived.Test.YtjgfofcgmcnblaaGreatPfM2
import Derived.KernelRfl
set_option linter.all false
set_option maxHeartbeats 2000000
namespace Go.Proofs.YtjgfofcgmcnblaaGreat.Pf
open Go Go.Pv
def inA(p:Pg)(m:Nat):List Int:=atF (mx p) (m:Int)
def ins(p:Pg)(n:Nat):List (List Int):=(List.range n).map (inA p)
def ous(p:Pg)(t:Fs)(n:Nat):List Oc:=(List.range n).map fun m=>oc p t (inA p m)
def cN(p:Pg):Nat:=(cntF (mx p)).toNat
theorem ins_succ(p:Pg)(n:Nat):ins p (n+1)=ins p n++[inA p n]:=by
  unfold ins;rw[List.range_succ,List.map_append];rfl
theorem ous_succ(p:Pg)(t:Fs)(n:Nat):ous p t (n+1)=ous p t n++[oc p t (inA p n)]:=by
  unfold ous;rw[List.range_succ,List.map_append];rfl
theorem ins_len(p:Pg)(n:Nat):(ins p n).length=n:=by unfold ins;rw[List.length_map,List.length_range]
theorem ous_len(p:Pg)(t:Fs)(n:Nat):(ous p t n).length=n:=by unfold ous;rw[List.length_map,List.length_range]
section
variable {p:Pg}{t:Fs}(ht:Ok p t)
include ht
theorem inA_wi(m:Nat):Wi p (inA p m):=at_wi ht.hd (Int.natCast_nonneg m)
theorem ous_ok(n:Nat):Fews (ous p t n):=fun o ho=>by
  obtain⟨m,_,rfl⟩:=List.mem_map.1 ho;exact oc_ok ht (inA_wi ht m)
theorem cN_bd:cN p≤1024∧((cN p:Nat):Int)=cntF (mx p):=by
  have:=cnt_bd ht.hd;unfold cN;omega
theorem mx6:(mx p).length≤6:=by
  have:=ht.hd.b;rw[mx_len];omega
theorem table_ans:Ans n_spec_l8Table s_spec_l8Table (p,()) ((ins p (cN p),ous p t (cN p),()),()):=by
  obtain⟨hc,ec⟩:=cN_bd ht;have hC:=count_ans (mx_few ht.hd) (mx6 ht) (cnt_bd ht.hd).2;refine Gv.ans (Gv.of (fun k=>spec_l8Table.F_eq (cl k) k p) ?_);unfold spec_l8Table.F spec_l8Table.Fm;refine Tq.ba (maxes_ans ht.hd) ?_;have key:∀(d j:Nat),cN p-j=d→j≤cN p→Tq (d+1) (fun k q=>spec_l8Table.L0 (cl k) k p ((mx p,()),()) q (j:Int) (ous p t j) (ins p j)) (· =((ins p (cN p),ous p t (cN p),()),())):=by
    intro d
    induction d with
    | zero=>
      intro j hd hj;obtain rfl:j=cN p:=by omega
      refine Tq.succ ?_;show Tq _ (fun k q=>spec_l8Table.step0 (cl k) k ..) _
      unfold spec_l8Table.step0;exact Tq.ba hC (Tq.bf (decide_eq_false (by dsimp only;omega)) (Tq.ret rfl))
    | succ d ih=>
      intro j hd hj;have l1:=ins_len p j;have l2:=ous_len p t j;refine Tq.succ ?_;show Tq _ (fun k q=>spec_l8Table.step0 (cl k) k ..) _
      unfold spec_l8Table.step0;refine Tq.ba hC (Tq.bt (decide_eq_true (by dsimp only;omega)) (Tq.ba (at_ans (mx_few ht.hd) (mx6 ht) (Int.natCast_nonneg j) (by omega)) (Tq.bt (apb (by rw[by23];simp only[List.length_cons,List.length_nil];omega)) ?_)));refine Tq.ba (l6Of_ans ht (inA_wi ht j)) (Tq.bt (apb (by rw[ti_oc];simp only[List.length_cons,List.length_nil];omega)) ?_);rw[ws (n:=cN p) (by omega) (by omega)];have:=ih (j+1) (by omega) (by omega);rw[ins_succ,ous_succ]at this;exact this
  exact Tq.diag (key _ 0 rfl (Nat.zero_le _))
theorem wi_in:∀m,Within ((inA p m).take p.2.1.length) p.2.1∧Within ((inA p m).drop p.2.1.length) p.2.2.1:=inA_wi ht
theorem inputOf_ans {n:Nat}(hn:n≤1024):Ans n_impl_inputOf s_impl_inputOf (p,(n:Int),()) (((inA p n).take p.2.1.length,(inA p n).drop p.2.1.length,()),()):=by
  have hp:=ht.hd;have hb:=hp.b;have e0:mx p=(p.2.1++p.2.2.1).map (·.1):=by unfold mx;rw[List.map_append]
  have hf:=mx_few hp;have hn6:(p.2.1++p.2.2.1).length≤6:=by rw[List.length_append];omega
  have hge:p.2.1.length≤(p.2.1++p.2.2.1).length:=by rw[List.length_append];omega
  have hA:=allIn_ans hp;refine Gv.ans (Gv.of (fun k=>impl_inputOf.F_eq (cl k) k p n) ?_);unfold impl_inputOf.F impl_inputOf.Fm inA;rw[e0]at hf⊢;generalize p.2.1++p.2.2.1=l at*;refine Tq.ba hA ?_;have key:∀(d j:Nat)(n:Int)(acc:List Int),l.length-j=d→0≤n→n≤1024→acc.length=j→j≤l.length→Tq (d+1) (fun k q=>impl_inputOf.L0 (cl k) k p ((l,()),()) q n (j:Int) acc) (· =(((acc++atF ((l.drop j).map (·.1)) n).take p.2.1.length,(acc++atF ((l.drop j).map (·.1)) n).drop p.2.1.length,()),())):=by
    intro d
    induction d with
    | zero=>
      intro j n acc hd h0 h1 h2 h3;refine Tq.succ ?_;show Tq _ (fun k q=>impl_inputOf.step0 (cl k) k ..) _
      unfold impl_inputOf.step0;have e:l.drop j=[]:=List.drop_of_length_le (by omega);rw[e];simp only[List.map_nil,atF,List.append_nil];refine Tq.bf (dnlt (by omega)) ?_;rw[Int.toNat_natCast];have hc:p.2.1.length≤acc.length:=by omega
      refine Tq.bt (dle0 _) (Tq.bt (by simp only[zs];omega) (Tq.bt (apb (by rw[by2];simp only[List.length_take,List.length_drop];omega)) (Tq.bt (dle0 _) (Tq.bt (by simp only[zs];omega) (Tq.bt (apb (by rw[by2];simp only[List.length_take,List.length_drop];omega)) (Tq.ret ?_))))));rw[List.take_of_length_le (show(acc.drop p.2.1.length).length≤acc.length-p.2.1.length by rw[List.length_drop];exact Nat.le_refl _)];rfl
    | succ d ih=>
      intro j n acc hd h0 h1 h2 h3;have hj:j<l.length:=by omega
      have hx:=hf _ (List.mem_map.2 ⟨_,List.getElem_mem hj,rfl⟩);have q0:=Int.tdiv_nonneg h0 (show 0≤l[j].1+1 by omega);have q1:=Int.tdiv_le_self (l[j].1+1) h0;refine Tq.succ ?_;show Tq _ (fun k q=>impl_inputOf.step0 (cl k) k ..) _
      unfold impl_inputOf.step0;refine Tq.bt (dlt hj) (Tq.bt (idx_ok hj) (Tq.some (lg hj) ?_));rw[w64 (x:=l[j].1+1) (by omega) (by omega)];refine Tq.bf (decide_eq_false (by omega)) (Tq.bt (apb (by rw[by2];simp only[List.length_cons,List.length_nil];omega)) (Tq.bf (decide_eq_false (by omega)) ?_));rw[ws hj (by omega),w64 (by omega) (by omega),List.drop_eq_getElem_cons hj];have:=ih (j+1) _ (acc++[n.tmod (l[j].1+1)]) (by omega) q0 (by omega) (by simp;omega) (by omega);rw[List.append_assoc acc,List.singleton_append]at this;exact this
  exact Tq.diag (key _ 0 n [] rfl (by omega) (by omega) rfl (Nat.zero_le _))
theorem runIn_gv(n:Nat):Gv n_impl_ran s_impl_ran (p,(inA p n).take p.2.1.length,(inA p n).drop p.2.1.length,()) (fun(r:(Oc×(ET×Unit))×Unit)=>r.1.1=oc p t (inA p n)):=by
  have h:=wi_in ht n;have:=ran_ans ht h.1 h.2;rw[List.take_append_drop]at this;exact this
theorem bd0:Bd [] 0:=⟨Nat.le_refl _,fun _ h=>by cases h⟩
theorem allTally_gv:Gv n_impl_tallyOf__impl_AllOutcomes_1 s_impl_tallyOf__impl_AllOutcomes_1 (p,(),()) (fun(r:(Tly×Unit)×Unit)=>TlI r.1.1 (tal [] (ous p t (cN p)))):=by
  obtain⟨hc,ec⟩:=cN_bd ht;have hM:=many_ans ht.hd;refine Gv.of (fun k=>impl_tallyOf__impl_AllOutcomes_1.F_eq (cl k) k p ()) ?_;unfold impl_tallyOf__impl_AllOutcomes_1.F impl_tallyOf__impl_AllOutcomes_1.Fm;have key:∀(d j:Nat)(st:Tly),cN p-j=d→j≤cN p→TlI st (tal [] (ous p t j))→Tq (d+1) (fun k q=>impl_tallyOf__impl_AllOutcomes_1.L0 (cl k) k p q (j:Int) st.2.2.1 st.2.1 st.1) (fun(r:(Tly×Unit)×Unit)=>TlI r.1.1 (tal [] (ous p t (cN p)))):=by
    intro d
    induction d with
    | zero=>
      intro j st hd hj hT;obtain rfl:j=cN p:=by omega
      refine Tq.succ ?_;show Tq _ (fun k q=>impl_tallyOf__impl_AllOutcomes_1.step0 (cl k) k ..) _
      unfold impl_tallyOf__impl_AllOutcomes_1.step0;exact Tq.ba hM (Tq.bf (decide_eq_false (by dsimp only;omega)) (Tq.ret hT))
    | succ d ih=>
      intro j st hd hj hT;have hB:Bd (tal [] (ous p t j)) (0+(ous p t j).length):=tal_bd (bd0 ht) (ous_ok ht j);rw[ous_len]at hB;have hY:Ans n_impl_AllOutcomes_1 s_impl_AllOutcomes_1 ((inA p j).take p.2.1.length,(inA p j).drop p.2.1.length,()) ((true,()),()):=
        Gv.ans (Gv.of (fun k=>impl_AllOutcomes_1.F_eq (cl k) k _ _) (Tq.ret rfl))
      refine Tq.succ ?_;show Tq _ (fun k q=>impl_tallyOf__impl_AllOutcomes_1.step0 (cl k) k ..) _
      unfold impl_tallyOf__impl_AllOutcomes_1.step0;refine Tq.ba hM (Tq.bt (decide_eq_true (by dsimp only;omega)) (Tq.ba (inputOf_ans ht (by omega)) (Tq.ba hY (Tq.bt rfl ?_))));refine Tq.bind (runIn_gv ht j).tq ?_;rintro⟨⟨o,v,⟨⟩⟩,⟨⟩⟩ ho;have ho:o=oc p t (inA p j):=ho;subst ho;refine Tq.bind (add_gv hT hB (by omega) (oc_ok ht (inA_wi ht j))).tq ?_;rintro⟨⟨⟩,st',⟨⟩⟩ hT';rw[ws (n:=cN p) (by omega) (by omega)];refine ih (j+1) st' (by omega) (by omega) ?_;rw[ous_succ];unfold tal;rw[List.foldl_append];exact hT'
  exact Tq.diag (key _ 0 (none,[],[],()) rfl (Nat.zero_le _) TlI.nil)
end
end Go.Proofs.YtjgfofcgmcnblaaGreat.Pf
namespace Go.Proofs.YtjgfofcgmcnblaaGreat.Pf
open Go Go.Pv IntKind
end Go.Proofs.YtjgfofcgmcnblaaGreat.Pf
namespace Go.Proofs.YtjgfofcgmcnblaaGreat.Pf
open Go Go.Pv
theorem Tq.fuel {α:Type}{d:Nat}{P:α→Prop}{F G:Nat→Nat→Nat→Option α}(e:∀k q n,F k q (n+1)=G k q n){m:Nat→Nat}{N:Nat}(hm:∀k,N≤k→1≤m k)(h:Tq d (fun k q=>G k q (m k-1)) P):Tq d (fun k q=>F k q (m k)) P:=
  Tq.evEq ⟨N,fun k hk q _=>by
    have:=hm k hk;obtain⟨x,hx⟩:∃x,m k=x+1:=⟨m k-1,by omega⟩
    rw[hx];exact e k q x⟩ h
section
variable {p:Pg}{t:Fs}(ht:Ok p t)
include ht
end
section
variable {p:Pg}(hsm:Small p){l s:List Int}{free:List Bool}(hl:l.length≤1048576)(hs:s.length≤1048576)(hf:free.length≤1048576)
include hsm hl hs
end
end Go.Proofs.YtjgfofcgmcnblaaGreat.Pf
namespace Go.Proofs.YtjgfofcgmcnblaaGreat.Pf
open Go Go.Pv IntKind
abbrev YE_6:Type:=((List Int)×(Int×(Int×Unit)))
namespace impl_shapeOf
abbrev R:=(((Int×(Int×(Int×Unit)))×Unit)×Unit)
def Fm(call:Cl)(k:Nat)(a0:YE_6):Option R:=some ((((↑(List.length a0.1):Int),a0.2.1,a0.2.2.1,()),()),())
def F(call:Cl)(k:Nat)(a0:YE_6):Option R:=Fm call k a0
theorem F_eq(call:Cl)(k:Nat)(a0:YE_6):bodyK E call n_impl_shapeOf k s_impl_shapeOf (a0,())=F call k a0:=by kernel_rfl
end impl_shapeOf
namespace spec_l15Shape
abbrev R:=(((Int×(Int×(Int×Unit)))×Unit)×Unit)
def Fm(call:Cl)(k:Nat)(a0:YE_6):Option R:=some ((((↑(List.length a0.1):Int),a0.2.1,a0.2.2.1,()),()),())
def F(call:Cl)(k:Nat)(a0:YE_6):Option R:=Fm call k a0
theorem F_eq(call:Cl)(k:Nat)(a0:YE_6):bodyK E call n_spec_l15Shape k s_spec_l15Shape (a0,())=F call k a0:=by kernel_rfl
end spec_l15Shape
end Go.Proofs.YtjgfofcgmcnblaaGreat.Pf
namespace Go.Proofs.YtjgfofcgmcnblaaGreat.Pf
open Go Go.Pv
section
variable {p:Pg}(hsm:Small p){l s:List Int}{free:List Bool}(hl:l.length≤1048576)(hs:s.length≤1048576)
include hsm hl hs
end
abbrev Sh:=Int×(Int×(Int×Unit))
abbrev shT:Ty:=.pair (.int .i64) (.pair (.int .i64) (.pair (.int .i64) .unit))
def shp(o:Oc):Sh:=((o.1.length:Int),o.2.1,o.2.2.1,())
theorem eqSh(x y:Sh):eqV shT x y=bo (x=y):=by
  by_cases h:x=y
  . subst h;rw[bo_t rfl];simp[shT,eqV]
  . rw[bo_f h];cases e:eqV shT x y
    . rfl
    . exact absurd (keyV_eq (t:=shT) rfl e) h
theorem iShape_ans(o:Oc):Ans n_impl_shapeOf s_impl_shapeOf (o,()) ((shp o,()),()):=
  Gv.ans (Gv.of (fun k=>impl_shapeOf.F_eq (cl k) k o) (Tq.ret rfl))
theorem sShape_ans(o:Oc):Ans n_spec_l15Shape s_spec_l15Shape (o,()) ((shp o,()),()):=
  Gv.ans (Gv.of (fun k=>spec_l15Shape.F_eq (cl k) k o) (Tq.ret rfl))
section
variable {p:Pg}(hsm:Small p){l s:List Int}{free:List Bool}(hl:l.length≤1048576)(hs:s.length≤1048576)
include hsm hl hs
end
section
variable {p:Pg}(hsm:Small p){l s:List Int}{free:List Bool}(hl:l.length≤1048576)(hs:s.length≤1048576)
include hsm hl hs
end
end Go.Proofs.YtjgfofcgmcnblaaGreat.Pf
namespace Go.Proofs.YtjgfofcgmcnblaaGreat.Pf
open Go Go.Pv IntKind
abbrev YF_0:Type:=(Int×((List (Int×(Int×Unit)))×((List (Int×(Int×Unit)))×(Int×((List Int)×((List (Int×(Int×((List (Int×(Int×Unit)))×((List (Int×(Int×Unit)))×Unit)))))×Unit))))))
abbrev YF_1:Type:=(((List (List Int))×((List ((List Int)×(Int×(Int×Unit))))×Unit))×Unit)
abbrev YF_2:Type:=((((List ((List Int)×(Int×(Int×Unit))))×Unit)×Unit))
abbrev YF_3:Type:=(((List ((List Int)×(Int×(Int×Unit))))×Unit)×Unit)
abbrev YF_4:Type:=((((Int×(Int×(Int×Unit)))×Unit)×Unit))
abbrev YF_5:Type:=((Int)×((List (Int×(Int×(Int×Unit))))))
abbrev YF_6:Type:=(((Int×(Int×(Int×Unit)))×Unit)×Unit)
abbrev YF_7:Type:=((List (Int×(Int×(Int×Unit)))))
abbrev YF_8:Type:=(List (Int×(Int×(Int×Unit))))
abbrev YF_9:Type:=(Int×(Int×(Int×Unit)))
namespace impl_ahead
abbrev R:=((Bool×Unit)×Unit)
def Fm(call:Cl)(k:Nat)(a0:YF_9)(a1:YF_9):Option R:=bif a0.1!=a1.1 then some ((decide (a0.1<a1.1),()),())else bif a0.2.1!=a1.2.1 then some ((decide (a0.2.1<a1.2.1),()),())else some ((decide (a0.2.2.1<a1.2.2.1),()),())
def F(call:Cl)(k:Nat)(a0:YF_9)(a1:YF_9):Option R:=Fm call k a0 a1
theorem F_eq(call:Cl)(k:Nat)(a0:YF_9)(a1:YF_9):bodyK E call n_impl_ahead k s_impl_ahead (a0,a1,())=F call k a0 a1:=by kernel_rfl
end impl_ahead
namespace spec_l15Ahead
abbrev R:=((Bool×Unit)×Unit)
def Fm(call:Cl)(k:Nat)(a0:YF_9)(a1:YF_9):Option R:=bif a0.1!=a1.1 then some ((decide (a0.1<a1.1),()),())else bif a0.2.1!=a1.2.1 then some ((decide (a0.2.1<a1.2.1),()),())else some ((decide (a0.2.2.1<a1.2.2.1),()),())
def F(call:Cl)(k:Nat)(a0:YF_9)(a1:YF_9):Option R:=Fm call k a0 a1
theorem F_eq(call:Cl)(k:Nat)(a0:YF_9)(a1:YF_9):bodyK E call n_spec_l15Ahead k s_spec_l15Ahead (a0,a1,())=F call k a0 a1:=by kernel_rfl
end spec_l15Ahead
namespace spec_l15With
abbrev R:=(((List (Int×(Int×(Int×Unit))))×Unit)×Unit)
def S1(a0:YF_8)(a1:YF_9)(v1_1:Bool)(v1_2:Int)(v1_3:YF_8):St:=⟨mkS 59 [(0,.v (.slc (.pair tI tTm)) (a0)),(3,.p [500003] [] 0),(5,.ref [500005]),(6,.v .bool v1_1),(8,.v tI v1_2)],[([500005],.list 42 (.pair tI tTm) v1_3),([500003],.box (.v (.pair tI tTm) ((a1.1),((a1.2.1),((a1.2.2.1),())))))]⟩
def S0(a0:YF_8)(a1:YF_9)(v0_2:Int):St:=⟨mkS 59 [(0,.v (.slc (.pair tI tTm)) (a0)),(3,.p [500003] [] 0),(5,.ref [500005]),(6,.v .bool (false)),(7,.v tI v0_2)],[([500005],.list 42 (.pair tI tTm) ([])),([500003],.box (.v (.pair tI tTm) ((a1.1),((a1.2.1),((a1.2.2.1),())))))]⟩
def step1(call:Cl)(k:Nat)(a0:YF_8)(a1:YF_9)(r1:(Bool)→(Int)→YF_7→Option R)(v1_1:Bool)(v1_2:Int)(v1_3:YF_8):Option R:=bif decide (v1_2<(↑a0.length:Int))then bif !v1_1 then bif decide (0≤v1_2)then(lget a0 v1_2.toNat).bind fun(y1:Int×Int×Int×Unit)=>(call 168 s_spec_l15Ahead ((a1.1,a1.2.1,a1.2.2.1,()),y1,())).bind fun(y2:(Bool×Unit)×Unit)=>bif y2.1.1 then bif decide ((v1_3.length+[(a1.1,a1.2.1,a1.2.2.1,())].length)*ti42.bytes≤140737488355328)then bif decide (0≤v1_2)then(lget a0 v1_2.toNat).bind fun(y3:Int×Int×Int×Unit)=>bif decide (((v1_3++[(a1.1,a1.2.1,a1.2.2.1,())]).length+[y3].length)*ti42.bytes≤140737488355328)then r1 true (i64.wrap (v1_2+1)) (v1_3++[(a1.1,a1.2.1,a1.2.2.1,())]++[y3])else none else none else none else bif decide (0≤v1_2)then(lget a0 v1_2.toNat).bind fun(y4:Int×Int×Int×Unit)=>bif decide ((v1_3.length+[y4].length)*ti42.bytes≤140737488355328)then r1 v1_1 (i64.wrap (v1_2+1)) (v1_3++[y4])else none else none else none else bif decide (0≤v1_2)then(lget a0 v1_2.toNat).bind fun(y5:Int×Int×Int×Unit)=>bif decide ((v1_3.length+[y5].length)*ti42.bytes≤140737488355328)then r1 v1_1 (i64.wrap (v1_2+1)) (v1_3++[y5])else none else none else bif !v1_1 then bif decide ((v1_3.length+[(a1.1,a1.2.1,a1.2.2.1,())].length)*ti42.bytes≤140737488355328)then some ((v1_3++[(a1.1,a1.2.1,a1.2.2.1,())],()),())else none else some ((v1_3,()),())
def L1(call:Cl)(k:Nat)(a0:YF_8)(a1:YF_9):Nat→(Bool)→(Int)→YF_7→Option R|0,_,_,_=>none|n+1,v1_1,v1_2,v1_3=>step1 call k a0 a1 (L1 call k a0 a1 n) v1_1 v1_2 v1_3
def step0(call:Cl)(k:Nat)(a0:YF_8)(a1:YF_9)(l1:YF_7→(YF_9)→(Bool)→(Int)→YF_7→Option R)(r0:(Int)→Option R)(v0_2:Int):Option R:=bif decide (v0_2<(↑a0.length:Int))then bif decide (0≤v0_2)then(lget a0 v0_2.toNat).bind fun(y0:Int×Int×Int×Unit)=>bif eqV ((Ty.int .i64).pair ((Ty.int .i64).pair ((Ty.int .i64).pair Ty.unit))) y0 (a1.1,a1.2.1,a1.2.2.1,())then bif decide ((0+a0.length)*ti42.bytes≤140737488355328)then some (([]++a0,()),())else none else r0 (i64.wrap (v0_2+1))else none else l1 a0 a1 false 0 []
def L0(call:Cl)(k:Nat)(a0:YF_8)(a1:YF_9):Nat→(Int)→Option R|0,_=>none|n+1,v0_2=>step0 call k a0 a1 (fun a0_ a1_ v1_1_ v1_2_ v1_3_=>L1 call k a0_ a1_ k v1_1_ v1_2_ v1_3_) (L0 call k a0 a1 n) v0_2
def Fm(call:Cl)(k:Nat)(l0:YF_7→(YF_9)→(Int)→Option R)(a0:YF_8)(a1:YF_9):Option R:=l0 a0 a1 0
def F(call:Cl)(k:Nat)(a0:YF_8)(a1:YF_9):Option R:=Fm call k (fun a0_ a1_ v0_2_=>L0 call k a0_ a1_ k v0_2_) a0 a1
theorem L1_eq(call:Cl)(k:Nat)(J:Nat→St→Option R)(a0:YF_8)(a1:YF_9):∀(n:Nat)(x:((Bool)×(Int)×YF_7)),siteI E call n_spec_l15With k s_spec_l15With (a0,a1,()) J 1 n (S1 a0 a1 x.1 x.2.1 x.2.2)=L1 call k a0 a1 n x.1 x.2.1 x.2.2:=by
  refine loop_eq (s:=s_spec_l15With) (fun x=>S1 a0 a1 x.1 x.2.1 x.2.2) (fun n x=>L1 call k a0 a1 n x.1 x.2.1 x.2.2) (fun r x=>step1 call k a0 a1 (fun v1_1 v1_2 v1_3=>r (v1_1,v1_2,v1_3)) x.1 x.2.1 x.2.2) (fun _=>rfl) (fun _ _=>rfl) fun J0 x=>?_
  kernel_rfl
theorem L0_eq(call:Cl)(k:Nat)(J:Nat→St→Option R)(a0:YF_8)(a1:YF_9):∀(n:Nat)(x:(Int)),siteI E call n_spec_l15With k s_spec_l15With (a0,a1,()) J 0 n (S0 a0 a1 x)=L0 call k a0 a1 n x:=by
  refine loop_eq (s:=s_spec_l15With) (fun x=>S0 a0 a1 x) (fun n x=>L0 call k a0 a1 n x) (fun r x=>step0 call k a0 a1 (fun(a0:YF_8)(a1:YF_9)(v1_1_:Bool)(v1_2_:Int)(v1_3_:YF_8)=>L1 call k a0 a1 k v1_1_ v1_2_ v1_3_) (fun v0_2=>r v0_2) x) (fun _=>rfl) (fun _ _=>rfl) fun J0 x=>?_
  refine Eq.trans (b:=step0 call k a0 a1 (fun a0 a1 v1_1_ v1_2_ v1_3_=>siteI E call n_spec_l15With k s_spec_l15With (a0,a1,()) (upJ 0 J0 J) 1 k (S1 a0 a1 v1_1_ v1_2_ v1_3_)) (fun v0_2=>J0 (S0 a0 a1 v0_2)) x) (by kernel_rfl) ?_;rw[show(fun(a0:YF_8)(a1:YF_9)(v1_1_:Bool)(v1_2_:Int)(v1_3_:YF_8)=>siteI E call n_spec_l15With k s_spec_l15With (a0,a1,()) (upJ 0 J0 J) 1 k (S1 a0 a1 v1_1_ v1_2_ v1_3_))=(fun(a0:YF_8)(a1:YF_9)(v1_1_:Bool)(v1_2_:Int)(v1_3_:YF_8)=>L1 call k a0 a1 k v1_1_ v1_2_ v1_3_)from funext fun a0=>funext fun a1=>funext fun v1_1_=>funext fun v1_2_=>funext fun v1_3_=>L1_eq call k (upJ 0 J0 J) a0 a1 k (v1_1_,v1_2_,v1_3_)]
  all_goals rfl
theorem F_eq(call:Cl)(k:Nat)(a0:YF_8)(a1:YF_9):bodyK E call n_spec_l15With k s_spec_l15With (a0,a1,())=F call k a0 a1:=by
  exact Eq.trans (b:=Fm call k (fun a0 a1 v0_2_=>siteI E call n_spec_l15With k s_spec_l15With (a0,a1,()) (fun _ _=>none) 0 k (S0 a0 a1 v0_2_)) a0 a1) (by kernel_rfl) (congrArg (fun l=>Fm call k l a0 a1) (funext fun a0=>funext fun a1=>funext fun v0_2_=>L0_eq call k (fun _ _=>none) a0 a1 k v0_2_))
end spec_l15With
namespace spec_ShapesOf
abbrev R:=(((List (Int×(Int×(Int×Unit))))×Unit)×Unit)
def S0(y1:(YF_1))(v0_1:Int)(v0_2:YF_8):St:=⟨mkS 31 [(3,.ref [500003]),(5,.v (.slc (.pair (.slc tI) tTm)) (y1.1.2.1)),(6,.v tI v0_1)],[([500003],.list 42 (.pair tI tTm) v0_2)]⟩
def step0(call:Cl)(k:Nat)(y1:YF_1)(r0:(Int)→YF_7→Option R)(v0_1:Int)(v0_2:YF_8):Option R:=bif decide (v0_1<(↑(List.length y1.1.2.1):Int))then bif decide (0≤v0_1)then(lget y1.1.2.1 v0_1.toNat).bind fun(y2:(List Int×Int×Int×Unit))=>(call 108 s_spec_l15Shape (y2,())).bind fun(y3:(((Int×Int×Int×Unit)×Unit)×Unit))=>(call 107 s_spec_l15With (v0_2,y3.1.1,())).bind fun(y4:((List (Int×Int×Int×Unit)×Unit)×Unit))=>r0 (i64.wrap (v0_1+1)) y4.1.1 else none else some ((v0_2,()),())
def L0(call:Cl)(k:Nat)(y1:YF_1):Nat→(Int)→YF_7→Option R|0,_,_=>none|n+1,v0_1,v0_2=>step0 call k y1 (L0 call k y1 n) v0_1 v0_2
def Fm(call:Cl)(k:Nat)(l0:(YF_1)→(Int)→YF_7→Option R)(a0:YF_0):Option R:=(call 87 s_spec_ProgOk (a0,())).bind fun(y0:(Bool×Unit)×Unit)=>bif !y0.1.1 then some (([],()),())else(call 106 s_spec_l8Table (a0,())).bind fun(y1:((List (List Int)×List (List Int×Int×Int×Unit)×Unit)×Unit))=>l0 y1 0 []
def F(call:Cl)(k:Nat)(a0:YF_0):Option R:=Fm call k (fun y1_ v0_1_ v0_2_=>L0 call k y1_ k v0_1_ v0_2_) a0
theorem L0_eq(call:Cl)(k:Nat)(J:Nat→St→Option R)(a0:YF_0)(y1:YF_1):∀(n:Nat)(x:YF_5),siteI E call n_spec_ShapesOf k s_spec_ShapesOf (a0,()) J 0 n (S0 y1 x.1 x.2)=L0 call k y1 n x.1 x.2:=by
  refine loop_eq (s:=s_spec_ShapesOf) (fun x=>S0 y1 x.1 x.2) (fun n x=>L0 call k y1 n x.1 x.2) (fun r x=>step0 call k y1 (fun v0_1 v0_2=>r (v0_1,v0_2)) x.1 x.2) (fun _=>rfl) (fun _ _=>rfl) fun J0 x=>?_
  kernel_rfl
theorem F_eq(call:Cl)(k:Nat)(a0:YF_0):bodyK E call n_spec_ShapesOf k s_spec_ShapesOf (a0,())=F call k a0:=by
  exact Eq.trans (b:=Fm call k (fun y1 v0_1_ v0_2_=>siteI E call n_spec_ShapesOf k s_spec_ShapesOf (a0,()) (fun _ _=>none) 0 k (S0 y1 v0_1_ v0_2_)) a0) (by kernel_rfl) (congrArg (fun l=>Fm call k l a0) (funext fun y1=>funext fun v0_1_=>funext fun v0_2_=>L0_eq call k (fun _ _=>none) a0 y1 k (v0_1_,v0_2_)))
end spec_ShapesOf
namespace impl_ShapesOf
abbrev R:=(((List (Int×(Int×(Int×Unit))))×Unit)×Unit)
def S1(y0:YF_2)(v0_2:Int)(v0_3:YF_8)(y2:YF_4)(v1_0:Int):St:=⟨mkS 55 [(3,.ref [500003]),(6,.p [500006] [] 0),(7,.v tI v1_0),(10,.v (.slc (.pair (.slc tI) tTm)) (y0.1.1)),(11,.v tI ((↑(List.length y0.1.1):Int))),(12,.v tI (v0_2))],[([500006],.box (.v (.pair tI tTm) ((y2.1.1.1),((y2.1.1.2.1),((y2.1.1.2.2.1),()))))),([500003],.list 42 (.pair tI tTm) (v0_3))]⟩
def S0(y0:YF_2)(v0_2:Int)(v0_3:YF_8):St:=⟨mkS 55 [(3,.ref [500003]),(10,.v (.slc (.pair (.slc tI) tTm)) (y0.1.1)),(11,.v tI ((↑(List.length y0.1.1):Int))),(12,.v tI v0_2)],[([500003],.list 42 (.pair tI tTm) v0_3)]⟩
def step1(call:Cl)(k:Nat)(v0_2:Int)(v0_3:YF_8)(y2:YF_4)(r0:(Int)→YF_7→Option R)(r1:(Int)→Option R)(v1_0:Int):Option R:=bif decide (v1_0<(↑v0_3.length:Int))then bif decide (0≤v1_0)&&decide (v1_0.toNat<v0_3.length)then(lget v0_3 v1_0.toNat).bind fun(y3:Int×Int×Int×Unit)=>(call 125 s_impl_ahead (y3,(y2.1.1.1,y2.1.1.2.1,y2.1.1.2.2.1,()),())).bind fun(y4:(Bool×Unit)×Unit)=>bif y4.1.1 then r1 (i64.wrap (v1_0+1))else bif decide (v1_0<(↑v0_3.length:Int))then bif decide (0≤v1_0)&&decide (v1_0.toNat<v0_3.length)then(lget v0_3 v1_0.toNat).bind fun(y5:Int×Int×Int×Unit)=>bif eqV ((Ty.int .i64).pair ((Ty.int .i64).pair ((Ty.int .i64).pair Ty.unit))) y5 (y2.1.1.1,y2.1.1.2.1,y2.1.1.2.2.1,())then r0 (i64.wrap (v0_2+1)) v0_3 else bif decide (0≤v1_0)then bif decide (0≤v1_0.toNat)&&decide (v1_0.toNat≤v0_3.length)then bif decide (0≤v1_0)then bif decide (v1_0.toNat≤v0_3.length)&&decide (v0_3.length≤v0_3.length)then bif decide (([(y2.1.1.1,y2.1.1.2.1,y2.1.1.2.2.1,())].length+(List.take (v0_3.length-v1_0.toNat) (List.drop v1_0.toNat v0_3)).length)*ti42.bytes≤140737488355328)then bif decide (v1_0.toNat-0≤v0_3.length)then bif decide (((List.take (v1_0.toNat-0) v0_3).length+([(y2.1.1.1,y2.1.1.2.1,y2.1.1.2.2.1,())]++List.take (v0_3.length-v1_0.toNat) (List.drop v1_0.toNat v0_3)).length)*ti42.bytes≤140737488355328)then r0 (i64.wrap (v0_2+1)) (List.take (v1_0.toNat-0) v0_3++([(y2.1.1.1,y2.1.1.2.1,y2.1.1.2.2.1,())]++List.take (v0_3.length-v1_0.toNat) (List.drop v1_0.toNat v0_3)))else none else none else none else none else none else none else none else none else bif decide (0≤v1_0)then bif decide (0≤v1_0.toNat)&&decide (v1_0.toNat≤v0_3.length)then bif decide (0≤v1_0)then bif decide (v1_0.toNat≤v0_3.length)&&decide (v0_3.length≤v0_3.length)then bif decide (([(y2.1.1.1,y2.1.1.2.1,y2.1.1.2.2.1,())].length+(List.take (v0_3.length-v1_0.toNat) (List.drop v1_0.toNat v0_3)).length)*ti42.bytes≤140737488355328)then bif decide (v1_0.toNat-0≤v0_3.length)then bif decide (((List.take (v1_0.toNat-0) v0_3).length+([(y2.1.1.1,y2.1.1.2.1,y2.1.1.2.2.1,())]++List.take (v0_3.length-v1_0.toNat) (List.drop v1_0.toNat v0_3)).length)*ti42.bytes≤140737488355328)then r0 (i64.wrap (v0_2+1)) (List.take (v1_0.toNat-0) v0_3++([(y2.1.1.1,y2.1.1.2.1,y2.1.1.2.2.1,())]++List.take (v0_3.length-v1_0.toNat) (List.drop v1_0.toNat v0_3)))else none else none else none else none else none else none else none else none else bif decide (v1_0<(↑v0_3.length:Int))then bif decide (0≤v1_0)&&decide (v1_0.toNat<v0_3.length)then(lget v0_3 v1_0.toNat).bind fun(y6:Int×Int×Int×Unit)=>bif eqV ((Ty.int .i64).pair ((Ty.int .i64).pair ((Ty.int .i64).pair Ty.unit))) y6 (y2.1.1.1,y2.1.1.2.1,y2.1.1.2.2.1,())then r0 (i64.wrap (v0_2+1)) v0_3 else bif decide (0≤v1_0)then bif decide (0≤v1_0.toNat)&&decide (v1_0.toNat≤v0_3.length)then bif decide (0≤v1_0)then bif decide (v1_0.toNat≤v0_3.length)&&decide (v0_3.length≤v0_3.length)then bif decide (([(y2.1.1.1,y2.1.1.2.1,y2.1.1.2.2.1,())].length+(List.take (v0_3.length-v1_0.toNat) (List.drop v1_0.toNat v0_3)).length)*ti42.bytes≤140737488355328)then bif decide (v1_0.toNat-0≤v0_3.length)then bif decide (((List.take (v1_0.toNat-0) v0_3).length+([(y2.1.1.1,y2.1.1.2.1,y2.1.1.2.2.1,())]++List.take (v0_3.length-v1_0.toNat) (List.drop v1_0.toNat v0_3)).length)*ti42.bytes≤140737488355328)then r0 (i64.wrap (v0_2+1)) (List.take (v1_0.toNat-0) v0_3++([(y2.1.1.1,y2.1.1.2.1,y2.1.1.2.2.1,())]++List.take (v0_3.length-v1_0.toNat) (List.drop v1_0.toNat v0_3)))else none else none else none else none else none else none else none else none else bif decide (0≤v1_0)then bif decide (0≤v1_0.toNat)&&decide (v1_0.toNat≤v0_3.length)then bif decide (0≤v1_0)then bif decide (v1_0.toNat≤v0_3.length)&&decide (v0_3.length≤v0_3.length)then bif decide (([(y2.1.1.1,y2.1.1.2.1,y2.1.1.2.2.1,())].length+(List.take (v0_3.length-v1_0.toNat) (List.drop v1_0.toNat v0_3)).length)*ti42.bytes≤140737488355328)then bif decide (v1_0.toNat-0≤v0_3.length)then bif decide (((List.take (v1_0.toNat-0) v0_3).length+([(y2.1.1.1,y2.1.1.2.1,y2.1.1.2.2.1,())]++List.take (v0_3.length-v1_0.toNat) (List.drop v1_0.toNat v0_3)).length)*ti42.bytes≤140737488355328)then r0 (i64.wrap (v0_2+1)) (List.take (v1_0.toNat-0) v0_3++([(y2.1.1.1,y2.1.1.2.1,y2.1.1.2.2.1,())]++List.take (v0_3.length-v1_0.toNat) (List.drop v1_0.toNat v0_3)))else none else none else none else none else none else none else none
def L1(call:Cl)(k:Nat)(v0_2:Int)(v0_3:YF_8)(y2:YF_4)(r0:(Int)→YF_7→Option R):Nat→(Int)→Option R|0,_=>none|n+1,v1_0=>step1 call k v0_2 v0_3 y2 r0 (L1 call k v0_2 v0_3 y2 r0 n) v1_0
def step0(call:Cl)(k:Nat)(y0:YF_3)(l1:(Int)→YF_7→YF_4→(Int)→Option R)(r0:(Int)→YF_7→Option R)(v0_2:Int)(v0_3:YF_8):Option R:=bif decide (v0_2<(↑(List.length y0.1.1):Int))then bif decide (0≤v0_2)then(lget y0.1.1 v0_2.toNat).bind fun(y1:(List Int×Int×Int×Unit))=>(call 101 s_impl_shapeOf (y1,())).bind fun(y2:(((Int×Int×Int×Unit)×Unit)×Unit))=>l1 v0_2 v0_3 y2 0 else none else some ((v0_3,()),())
def L0(call:Cl)(k:Nat)(y0:YF_3):Nat→(Int)→YF_7→Option R|0,_,_=>none|n+1,v0_2,v0_3=>step0 call k y0 (fun v0_2_ v0_3_ y2_ v1_0_=>L1 call k v0_2_ v0_3_ y2_ (L0 call k y0 n) k v1_0_) (L0 call k y0 n) v0_2 v0_3
def Fm(call:Cl)(k:Nat)(l0:YF_2→(Int)→YF_7→Option R)(a0:YF_0):Option R:=(call 52 s_impl_AllOutcomes (a0,())).bind fun(y0:((List (List Int×Int×Int×Unit)×Unit)×Unit))=>l0 y0 0 []
def F(call:Cl)(k:Nat)(a0:YF_0):Option R:=Fm call k (fun y0_ v0_2_ v0_3_=>L0 call k y0_ k v0_2_ v0_3_) a0
theorem L1_eq(call:Cl)(k:Nat)(J:Nat→St→Option R)(a0:YF_0)(y0:YF_3)(v0_2:Int)(v0_3:YF_8)(y2:YF_6):∀(n:Nat)(x:(Int)),siteI E call n_impl_ShapesOf k s_impl_ShapesOf (a0,()) J 1 n (S1 y0 v0_2 v0_3 y2 x)=L1 call k v0_2 v0_3 y2 (fun v0_2_ v0_3_=>J 0 (S0 y0 v0_2_ v0_3_)) n x:=by
  refine loop_eq (s:=s_impl_ShapesOf) (fun x=>S1 y0 v0_2 v0_3 y2 x) (fun n x=>L1 call k v0_2 v0_3 y2 (fun v0_2_ v0_3_=>J 0 (S0 y0 v0_2_ v0_3_)) n x) (fun r x=>step1 call k v0_2 v0_3 y2 (fun v0_2_ v0_3_=>J 0 (S0 y0 v0_2_ v0_3_)) (fun v1_0=>r v1_0) x) (fun _=>rfl) (fun _ _=>rfl) fun J0 x=>?_
  kernel_rfl
theorem L0_eq(call:Cl)(k:Nat)(J:Nat→St→Option R)(a0:YF_0)(y0:YF_3):∀(n:Nat)(x:YF_5),siteI E call n_impl_ShapesOf k s_impl_ShapesOf (a0,()) J 0 n (S0 y0 x.1 x.2)=L0 call k y0 n x.1 x.2:=by
  refine loop_eq (s:=s_impl_ShapesOf) (fun x=>S0 y0 x.1 x.2) (fun n x=>L0 call k y0 n x.1 x.2) (fun r x=>step0 call k y0 (fun(v0_2:Int)(v0_3:YF_8)(y2:YF_6)(v1_0_:Int)=>L1 call k v0_2 v0_3 y2 (fun v0_2_ v0_3_=>r (v0_2_,v0_3_)) k v1_0_) (fun v0_2 v0_3=>r (v0_2,v0_3)) x.1 x.2) (fun _=>rfl) (fun _ _=>rfl) fun J0 x=>?_
  refine Eq.trans (b:=step0 call k y0 (fun v0_2 v0_3 y2 v1_0_=>siteI E call n_impl_ShapesOf k s_impl_ShapesOf (a0,()) (upJ 0 J0 J) 1 k (S1 y0 v0_2 v0_3 y2 v1_0_)) (fun v0_2 v0_3=>J0 (S0 y0 v0_2 v0_3)) x.1 x.2) (by kernel_rfl) ?_;rw[show(fun(v0_2:Int)(v0_3:YF_8)(y2:YF_6)(v1_0_:Int)=>siteI E call n_impl_ShapesOf k s_impl_ShapesOf (a0,()) (upJ 0 J0 J) 1 k (S1 y0 v0_2 v0_3 y2 v1_0_))=(fun(v0_2:Int)(v0_3:YF_8)(y2:YF_6)(v1_0_:Int)=>L1 call k v0_2 v0_3 y2 (fun v0_2_ v0_3_=>(upJ 0 J0 J) 0 (S0 y0 v0_2_ v0_3_)) k v1_0_)from funext fun v0_2=>funext fun v0_3=>funext fun y2=>funext fun v1_0_=>L1_eq call k (upJ 0 J0 J) a0 y0 v0_2 v0_3 y2 k v1_0_]
  all_goals rfl
theorem F_eq(call:Cl)(k:Nat)(a0:YF_0):bodyK E call n_impl_ShapesOf k s_impl_ShapesOf (a0,())=F call k a0:=by
  exact Eq.trans (b:=Fm call k (fun y0 v0_2_ v0_3_=>siteI E call n_impl_ShapesOf k s_impl_ShapesOf (a0,()) (fun _ _=>none) 0 k (S0 y0 v0_2_ v0_3_)) a0) (by kernel_rfl) (congrArg (fun l=>Fm call k l a0) (funext fun y0=>funext fun v0_2_=>funext fun v0_3_=>L0_eq call k (fun _ _=>none) a0 y0 k (v0_2_,v0_3_)))
end impl_ShapesOf
namespace laws_eqShape
abbrev R:=((Bool×Unit)×Unit)
def Fm(call:Cl)(k:Nat)(a0:YF_9)(a1:YF_9):Option R:=bif a0.1!=a1.1 then some ((false,()),())else bif a0.2.1!=a1.2.1 then some ((false,()),())else bif a0.2.2.1!=a1.2.2.1 then some ((false,()),())else some ((true,()),())
def F(call:Cl)(k:Nat)(a0:YF_9)(a1:YF_9):Option R:=Fm call k a0 a1
theorem F_eq(call:Cl)(k:Nat)(a0:YF_9)(a1:YF_9):bodyK E call n_laws_eqShape k s_laws_eqShape (a0,a1,())=F call k a0 a1:=by kernel_rfl
end laws_eqShape
namespace laws_eqShapeS
abbrev R:=((Bool×Unit)×Unit)
def S0(a0:YF_8)(a1:YF_8)(v0_2:Int):St:=⟨mkS 27 [(0,.v (.slc (.pair tI tTm)) (a0)),(1,.v (.slc (.pair tI tTm)) (a1)),(5,.v tI v0_2)],[]⟩
def step0(call:Cl)(k:Nat)(a0:YF_8)(a1:YF_8)(r0:(Int)→Option R)(v0_2:Int):Option R:=bif decide (v0_2<(↑a0.length:Int))then bif decide (0≤v0_2)then(lget a0 v0_2.toNat).bind fun(y0:Int×Int×Int×Unit)=>bif decide (0≤v0_2)then(lget a1 v0_2.toNat).bind fun(y1:Int×Int×Int×Unit)=>(call 138 s_laws_eqShape (y0,y1,())).bind fun(y2:(Bool×Unit)×Unit)=>bif !y2.1.1 then some ((false,()),())else r0 (i64.wrap (v0_2+1))else none else none else some ((true,()),())
def L0(call:Cl)(k:Nat)(a0:YF_8)(a1:YF_8):Nat→(Int)→Option R|0,_=>none|n+1,v0_2=>step0 call k a0 a1 (L0 call k a0 a1 n) v0_2
def Fm(call:Cl)(k:Nat)(l0:YF_7→YF_7→(Int)→Option R)(a0:YF_8)(a1:YF_8):Option R:=bif(↑a0.length:Int)!=(↑a1.length:Int)then some ((false,()),())else l0 a0 a1 0
def F(call:Cl)(k:Nat)(a0:YF_8)(a1:YF_8):Option R:=Fm call k (fun a0_ a1_ v0_2_=>L0 call k a0_ a1_ k v0_2_) a0 a1
theorem L0_eq(call:Cl)(k:Nat)(J:Nat→St→Option R)(a0:YF_8)(a1:YF_8):∀(n:Nat)(x:(Int)),siteI E call n_laws_eqShapeS k s_laws_eqShapeS (a0,a1,()) J 0 n (S0 a0 a1 x)=L0 call k a0 a1 n x:=by
  refine loop_eq (s:=s_laws_eqShapeS) (fun x=>S0 a0 a1 x) (fun n x=>L0 call k a0 a1 n x) (fun r x=>step0 call k a0 a1 (fun v0_2=>r v0_2) x) (fun _=>rfl) (fun _ _=>rfl) fun J0 x=>?_
  kernel_rfl
theorem F_eq(call:Cl)(k:Nat)(a0:YF_8)(a1:YF_8):bodyK E call n_laws_eqShapeS k s_laws_eqShapeS (a0,a1,())=F call k a0 a1:=by
  exact Eq.trans (b:=Fm call k (fun a0 a1 v0_2_=>siteI E call n_laws_eqShapeS k s_laws_eqShapeS (a0,a1,()) (fun _ _=>none) 0 k (S0 a0 a1 v0_2_)) a0 a1) (by kernel_rfl) (congrArg (fun l=>Fm call k l a0 a1) (funext fun a0=>funext fun a1=>funext fun v0_2_=>L0_eq call k (fun _ _=>none) a0 a1 k v0_2_))
end laws_eqShapeS
namespace laws_markShapeS
abbrev R:=((Int×Unit)×((List (Int×(Int×(Int×Unit))))×Unit))
def S0(v0_0:Int)(v0_1:Int)(v0_2:YF_8):St:=⟨mkS 34 [(0,.ref [500000]),(1,.v tI v0_0),(5,.v tI v0_1)],[([500000],.list 42 (.pair tI tTm) v0_2)]⟩
def step0(call:Cl)(k:Nat)(r0:(Int)→(Int)→YF_7→Option R)(v0_0:Int)(v0_1:Int)(v0_2:YF_8):Option R:=bif decide (v0_1<(↑v0_2.length:Int))then bif decide (0≤v0_1)&&decide (v0_1.toNat<v0_2.length)then(lget v0_2 v0_1.toNat).bind fun(y0:Int×Int×Int×Unit)=>bif decide (0≤v0_1)&&decide (v0_1.toNat<(v0_2.set v0_1.toNat (v0_0,y0.2)).length)then(lget (v0_2.set v0_1.toNat (v0_0,y0.2)) v0_1.toNat).bind fun(y1:Int×Int×Int×Unit)=>bif decide (0≤v0_1)&&decide (v0_1.toNat<((v0_2.set v0_1.toNat (v0_0,y0.2)).set v0_1.toNat (y1.1,i64.wrap (v0_0+1),y1.2.2)).length)then(lget ((v0_2.set v0_1.toNat (v0_0,y0.2)).set v0_1.toNat (y1.1,i64.wrap (v0_0+1),y1.2.2)) v0_1.toNat).bind fun(y2:Int×Int×Int×Unit)=>r0 (i64.wrap (i64.wrap (i64.wrap (v0_0+1)+1)+1)) (i64.wrap (v0_1+1)) (((v0_2.set v0_1.toNat (v0_0,y0.2)).set v0_1.toNat (y1.1,i64.wrap (v0_0+1),y1.2.2)).set v0_1.toNat (y2.1,y2.2.1,i64.wrap (i64.wrap (v0_0+1)+1),y2.2.2.2))else none else none else none else some ((v0_0,()),v0_2,())
def L0(call:Cl)(k:Nat):Nat→(Int)→(Int)→YF_7→Option R|0,_,_,_=>none|n+1,v0_0,v0_1,v0_2=>step0 call k (L0 call k n) v0_0 v0_1 v0_2
def Fm(call:Cl)(k:Nat)(l0:(Int)→(Int)→YF_7→Option R)(a0:YF_8)(a1:Int):Option R:=l0 a1 0 a0
def F(call:Cl)(k:Nat)(a0:YF_8)(a1:Int):Option R:=Fm call k (fun v0_0_ v0_1_ v0_2_=>L0 call k k v0_0_ v0_1_ v0_2_) a0 a1
theorem L0_eq(call:Cl)(k:Nat)(J:Nat→St→Option R)(a0:YF_8)(a1:Int):∀(n:Nat)(x:((Int)×(Int)×YF_7)),siteI E call n_laws_markShapeS k s_laws_markShapeS (a0,a1,()) J 0 n (S0 x.1 x.2.1 x.2.2)=L0 call k n x.1 x.2.1 x.2.2:=by
  refine loop_eq (s:=s_laws_markShapeS) (fun x=>S0 x.1 x.2.1 x.2.2) (fun n x=>L0 call k n x.1 x.2.1 x.2.2) (fun r x=>step0 call k (fun v0_0 v0_1 v0_2=>r (v0_0,v0_1,v0_2)) x.1 x.2.1 x.2.2) (fun _=>rfl) (fun _ _=>rfl) fun J0 x=>?_
  kernel_rfl
theorem F_eq(call:Cl)(k:Nat)(a0:YF_8)(a1:Int):bodyK E call n_laws_markShapeS k s_laws_markShapeS (a0,a1,())=F call k a0 a1:=by
  exact Eq.trans (b:=Fm call k (fun v0_0_ v0_1_ v0_2_=>siteI E call n_laws_markShapeS k s_laws_markShapeS (a0,a1,()) (fun _ _=>none) 0 k (S0 v0_0_ v0_1_ v0_2_)) a0 a1) (by kernel_rfl) (congrArg (fun l=>Fm call k l a0 a1) (funext fun v0_0_=>funext fun v0_1_=>funext fun v0_2_=>L0_eq call k (fun _ _=>none) a0 a1 k (v0_0_,v0_1_,v0_2_)))
end laws_markShapeS
namespace laws_heldShapeS
abbrev R:=((Int×Unit)×Unit)
def S0(a0:YF_8)(v0_1:Int)(v0_2:Int):St:=⟨mkS 40 [(0,.v (.slc (.pair tI tTm)) (a0)),(1,.v tI v0_1),(5,.v tI v0_2)],[]⟩
def step0(call:Cl)(k:Nat)(a0:YF_8)(r0:(Int)→(Int)→Option R)(v0_1:Int)(v0_2:Int):Option R:=bif decide (v0_2<(↑a0.length:Int))then bif decide (0≤v0_2)then(lget a0 v0_2.toNat).bind fun(y0:Int×Int×Int×Unit)=>bif y0.1!=v0_1 then some (((-1),()),())else bif decide (0≤v0_2)then(lget a0 v0_2.toNat).bind fun(y1:Int×Int×Int×Unit)=>bif y1.2.1!=i64.wrap (v0_1+1)then some (((-1),()),())else bif decide (0≤v0_2)then(lget a0 v0_2.toNat).bind fun(y2:Int×Int×Int×Unit)=>bif y2.2.2.1!=i64.wrap (i64.wrap (v0_1+1)+1)then some (((-1),()),())else r0 (i64.wrap (i64.wrap (i64.wrap (v0_1+1)+1)+1)) (i64.wrap (v0_2+1))else none else none else none else some ((v0_1,()),())
def L0(call:Cl)(k:Nat)(a0:YF_8):Nat→(Int)→(Int)→Option R|0,_,_=>none|n+1,v0_1,v0_2=>step0 call k a0 (L0 call k a0 n) v0_1 v0_2
def Fm(call:Cl)(k:Nat)(l0:YF_7→(Int)→(Int)→Option R)(a0:YF_8)(a1:Int):Option R:=l0 a0 a1 0
def F(call:Cl)(k:Nat)(a0:YF_8)(a1:Int):Option R:=Fm call k (fun a0_ v0_1_ v0_2_=>L0 call k a0_ k v0_1_ v0_2_) a0 a1
theorem L0_eq(call:Cl)(k:Nat)(J:Nat→St→Option R)(a0:YF_8)(a1:Int):∀(n:Nat)(x:((Int)×(Int))),siteI E call n_laws_heldShapeS k s_laws_heldShapeS (a0,a1,()) J 0 n (S0 a0 x.1 x.2)=L0 call k a0 n x.1 x.2:=by
  refine loop_eq (s:=s_laws_heldShapeS) (fun x=>S0 a0 x.1 x.2) (fun n x=>L0 call k a0 n x.1 x.2) (fun r x=>step0 call k a0 (fun v0_1 v0_2=>r (v0_1,v0_2)) x.1 x.2) (fun _=>rfl) (fun _ _=>rfl) fun J0 x=>?_
  kernel_rfl
theorem F_eq(call:Cl)(k:Nat)(a0:YF_8)(a1:Int):bodyK E call n_laws_heldShapeS k s_laws_heldShapeS (a0,a1,())=F call k a0 a1:=by
  exact Eq.trans (b:=Fm call k (fun a0 v0_1_ v0_2_=>siteI E call n_laws_heldShapeS k s_laws_heldShapeS (a0,a1,()) (fun _ _=>none) 0 k (S0 a0 v0_1_ v0_2_)) a0 a1) (by kernel_rfl) (congrArg (fun l=>Fm call k l a0 a1) (funext fun a0=>funext fun v0_1_=>funext fun v0_2_=>L0_eq call k (fun _ _=>none) a0 a1 k (v0_1_,v0_2_)))
end laws_heldShapeS
end Go.Proofs.YtjgfofcgmcnblaaGreat.Pf
namespace Go.Proofs.YtjgfofcgmcnblaaGreat.Pf
open Go Go.Pv
def ltS(a b:Sh):Prop:=a.1<b.1∨(a.1=b.1∧(a.2.1<b.2.1∨(a.2.1=b.2.1∧a.2.2.1<b.2.2.1)))
instance(a b:Sh):Decidable (ltS a b):=by unfold ltS;infer_instance
theorem sh_ext {a b:Sh}(h1:a.1=b.1)(h2:a.2.1=b.2.1)(h3:a.2.2.1=b.2.2.1):a=b:=by
  obtain⟨_,_,_,⟨⟩⟩:=a;obtain⟨_,_,_,⟨⟩⟩:=b;dsimp only at h1 h2 h3;rw[h1,h2,h3]
theorem lt_irr(a:Sh):¬ltS a a:=by unfold ltS;omega
theorem lt_tr {a b c:Sh}(h1:ltS a b)(h2:ltS b c):ltS a c:=by unfold ltS at*;omega
theorem lt_tri {a b:Sh}(h1:¬ltS a b)(h2:a≠b):ltS b a:=by
  unfold ltS at*;by_cases c1:a.1=b.1
  . by_cases c2:a.2.1=b.2.1
    . by_cases c3:a.2.2.1=b.2.2.1
      . exact absurd (sh_ext c1 c2 c3) h2
      . omega
    . omega
  . omega
theorem iAhead_ans(a b:Sh):Ans n_impl_ahead s_impl_ahead (a,b,()) ((bo (ltS a b),()),()):=by
  refine Gv.ans (Gv.of (fun k=>impl_ahead.F_eq (cl k) k a b) ?_);unfold impl_ahead.F impl_ahead.Fm
  repeat'((first|refine .t ?_|refine .u ?_|refine .some lg0 ?_|refine .some lg ?_|refine .some lgI ?_|(refine .bif (fun zz=>?_) (fun zz=>?_)<;>try simp(disch:=omega)only[zs,w64,zt]at zz))<;>try dsimp only)
  all_goals(refine Tq.ret ?_;rw[bo_dec];unfold ltS;omega)
theorem sAhead_ans(a b:Sh):Ans n_spec_l15Ahead s_spec_l15Ahead (a,b,()) ((bo (ltS a b),()),()):=by
  refine Gv.ans (Gv.of (fun k=>spec_l15Ahead.F_eq (cl k) k a b) ?_);unfold spec_l15Ahead.F spec_l15Ahead.Fm
  repeat'((first|refine .t ?_|refine .u ?_|refine .some lg0 ?_|refine .some lg ?_|refine .some lgI ?_|(refine .bif (fun zz=>?_) (fun zz=>?_)<;>try simp(disch:=omega)only[zs,w64,zt]at zz))<;>try dsimp only)
  all_goals(refine Tq.ret ?_;rw[bo_dec];unfold ltS;omega)
def insS:List Sh→Sh→List Sh
  |[],s=>[s]
  |a::l,s=>if ltS s a then s::a::l else a::insS l s
def insI:List Sh→Sh→List Sh
  |[],s=>[s]
  |a::l,s=>if ltS a s then a::insI l s else if a=s then a::l else s::a::l
def wS(l:List Sh)(s:Sh):List Sh:=if s∈l then l else insS l s
theorem insS_mem:∀{l:List Sh}{s x:Sh},x∈insS l s↔x=s∨x∈l
  |[],s,x=>by simp[insS]
  | a ::l,s,x=>by
    unfold insS;split
    . simp
    . simp only[List.mem_cons,insS_mem (l:=l)];constructor
      . rintro(h|h|h)
        . exact .inr (.inl h)
        . exact .inl h
        . exact .inr (.inr h)
      . rintro(h|h|h)
        . exact .inr (.inl h)
        . exact .inl h
        . exact .inr (.inr h)
theorem insS_sorted:∀{l:List Sh}{s:Sh},l.Pairwise ltS→s∉l→(insS l s).Pairwise ltS
  |[],s,_,_=>by simp[insS]
  | a ::l,s,h,hn=>by
    rw[List.pairwise_cons]at h;simp only[List.mem_cons,not_or]at hn;unfold insS;by_cases c:ltS s a
    . rw[if_pos c,List.pairwise_cons];refine⟨fun x hx=>?_,List.pairwise_cons.2 h⟩;rcases List.mem_cons.1 hx with rfl|hx
      . exact c
      . exact lt_tr c (h.1 x hx)
    . rw[if_neg c,List.pairwise_cons];refine⟨fun x hx=>?_,insS_sorted h.2 hn.2⟩;rcases insS_mem.1 hx with rfl|hx
      . exact lt_tri c hn.1
      . exact h.1 x hx
theorem insI_eq:∀{l:List Sh}{s:Sh},l.Pairwise ltS→insI l s=wS l s
  |[],s,_=>by simp[insI,wS,insS]
  | a ::l,s,h=>by
    rw[List.pairwise_cons]at h;have ih:=insI_eq (s:=s) h.2;unfold insI wS;by_cases c:ltS a s
    . have ne:¬s=a:=fun e=>lt_irr a (by rw[e]at c;exact c)
      rw[if_pos c,ih];unfold wS;by_cases m:s∈l
      . rw[if_pos m,if_pos (List.mem_cons_of_mem _ m)]
      . rw[if_neg m,if_neg (fun e=>(List.mem_cons.1 e).elim ne m),insS,if_neg (fun e=>lt_irr a (lt_tr c e))]
    . rw[if_neg c];by_cases e:a=s
      . rw[if_pos e,if_pos (by rw[e];exact List.mem_cons_self)]
      . rw[if_neg e];have c2:=lt_tri c e;rw[if_neg (fun m=>(List.mem_cons.1 m).elim (fun x=>e x.symm) fun m=>lt_irr s (lt_tr c2 (h.1 s m))),insS,if_pos c2]
theorem wS_sorted {l:List Sh}{s:Sh}(h:l.Pairwise ltS):(wS l s).Pairwise ltS:=by
  unfold wS;split
  . exact h
  . rename_i m;exact insS_sorted h m
theorem wS_mem {l:List Sh}{s x:Sh}(h:x∈l∨x=s):x∈wS l s:=by
  unfold wS;split
  . rename_i m;rcases h with h|rfl
    . exact h
    . exact m
  . exact insS_mem.2 (h.elim .inr .inl)
theorem insS_len:∀(l:List Sh)(s:Sh),(insS l s).length=l.length+1
  |[],_=>rfl
  | a::l,s=>by
    unfold insS;split
    . rfl
    . simp[insS_len l s]
theorem wS_len(l:List Sh)(s:Sh):(wS l s).length≤l.length+1:=by
  unfold wS;split
  . omega
  . rw[insS_len];exact Nat.le_refl _
def foldW(l:List Sh)(os:List Oc):List Sh:=os.foldl (fun l o=>wS l (shp o)) l
theorem foldW_mem:∀{os:List Oc}{l:List Sh}{x:Sh},(x∈l∨∃o∈os,shp o=x)→x∈foldW l os
  |[],l,x,h=>h.elim id fun⟨o,h,_⟩=>by cases h
  | o ::os,l,x,h=>by
    refine foldW_mem (os:=os) (l:=wS l (shp o)) ?_;rcases h with h|⟨o',h,e⟩
    . exact .inl (wS_mem (.inl h))
    . rcases List.mem_cons.1 h with rfl|h
      . exact .inl (wS_mem (.inr e.symm))
      . exact .inr ⟨o',h,e⟩
theorem foldW_dd:∀(os acc:List Oc),foldW [] (ddF acc os)=foldW (foldW [] acc) os
  |[],acc=>rfl
  | o ::os,acc=>by
    unfold ddF;by_cases c:o∈acc
    . rw[if_pos c,foldW_dd os acc];have e:wS (foldW [] acc) (shp o)=foldW [] acc:=if_pos (foldW_mem (.inr ⟨o,c,rfl⟩));show _=foldW (wS (foldW [] acc) (shp o)) os
      rw[e]
    . rw[if_neg c,foldW_dd os (acc++[o])];unfold foldW;rw[List.foldl_append];rfl
theorem foldW_len:∀(os:List Oc)(l:List Sh),(foldW l os).length≤l.length+os.length
  |[],l=>Nat.le_refl _
  | o::os,l=>by
    have:=foldW_len os (wS l (shp o));have:=wS_len l (shp o);show(foldW (wS l (shp o)) os).length≤_
    simp only[List.length_cons];omega
theorem foldI:∀(os:List Oc){l:List Sh},l.Pairwise ltS→os.foldl (fun l o=>insI l (shp o)) l=foldW l os
  |[],l,_=>rfl
  | o::os,l,h=>by
    show os.foldl _ (insI l (shp o))=foldW (wS l (shp o)) os
    rw[insI_eq h];exact foldI os (wS_sorted h)
theorem ti_sh:ti42.bytes=24:=rfl
theorem eqSh3(x s:Sh):eqV ((Ty.int .i64).pair ((Ty.int .i64).pair ((Ty.int .i64).pair Ty.unit))) x (s.1,s.2.1,s.2.2.1,())=bo (x=s):=eqSh x s
theorem with_ans(l:List Sh)(s:Sh)(hl:l.length≤1024):Ans n_spec_l15With s_spec_l15With (l,s,()) ((wS l s,()),()):=by
  have k1t:∀(d j:Nat)(acc:List Sh),l.length-j=d→acc.length+d≤1025→Tq (d+1) (fun k q=>spec_l15With.L1 (cl k) k l s q true (j:Int) acc) (· =((acc++l.drop j,()),())):=by
    intro d
    induction d with
    | zero=>
      intro j acc hd ha;refine Tq.succ ?_;show Tq _ (fun k q=>spec_l15With.step1 (cl k) k ..) _
      unfold spec_l15With.step1;rw[List.drop_of_length_le (by omega),List.append_nil];exact Tq.bf (dnlt (by omega)) (Tq.bf rfl (Tq.ret rfl))
    | succ d ih=>
      intro j acc hd ha;have hj:j<l.length:=by omega
      refine Tq.succ ?_;show Tq _ (fun k q=>spec_l15With.step1 (cl k) k ..) _
      unfold spec_l15With.step1;refine Tq.bt (dlt hj) (Tq.bf rfl (Tq.bt (dle0 _) (Tq.some (lg hj) (Tq.bt (apb (by rw[ti_sh];simp only[List.length_cons,List.length_nil];omega)) ?_))));rw[ws hj (by omega),List.drop_eq_getElem_cons hj];have:=ih (j+1) (acc++[l[j]]) (by omega) (by simp;omega);rw[List.append_assoc acc,List.singleton_append]at this;exact this
  have k1f:∀(d j:Nat)(acc:List Sh),l.length-j=d→acc.length+d≤1024→Tq (d+1) (fun k q=>spec_l15With.L1 (cl k) k l s q false (j:Int) acc) (· =((acc++insS (l.drop j) s,()),())):=by
    intro d
    induction d with
    | zero=>
      intro j acc hd ha;refine Tq.succ ?_;show Tq _ (fun k q=>spec_l15With.step1 (cl k) k ..) _
      unfold spec_l15With.step1;rw[List.drop_of_length_le (by omega)];exact Tq.bf (dnlt (by omega)) (Tq.bt rfl (Tq.bt (apb (by rw[ti_sh];simp only[List.length_cons,List.length_nil];omega)) (Tq.ret rfl)))
    | succ d ih=>
      intro j acc hd ha;have hj:j<l.length:=by omega
      have hA:Ans n_spec_l15Ahead s_spec_l15Ahead ((s.1,s.2.1,s.2.2.1,()),l[j],()) ((bo (ltS s l[j]),()),()):=sAhead_ans s l[j];refine Tq.succ ?_;show Tq _ (fun k q=>spec_l15With.step1 (cl k) k ..) _
      unfold spec_l15With.step1;refine Tq.bt (dlt hj) (Tq.bt rfl (Tq.bt (dle0 _) (Tq.some (lg hj) (Tq.ba hA ?_))));have e:insS (l.drop j) s=if ltS s l[j]then s::l[j]::l.drop (j+1)else l[j]::insS (l.drop (j+1)) s:=by rw[List.drop_eq_getElem_cons hj];rfl
      rw[e,ws hj (by omega)];by_cases c:ltS s l[j]
      . rw[if_pos c];refine Tq.bt (bo_t c) (Tq.bt (apb (by rw[ti_sh];simp only[List.length_cons,List.length_nil];omega)) (Tq.bt (dle0 _) (Tq.some (lg hj) (Tq.bt (apb (by rw[ti_sh];simp only[List.length_append,List.length_cons,List.length_nil];omega)) ?_))));have:=k1t d (j+1) (acc++[(s.1,s.2.1,s.2.2.1,())]++[l[j]]) (by omega) (by simp;omega);have e3:acc++[(s.1,s.2.1,s.2.2.1,())]++[l[j]]++l.drop (j+1)=acc++s::l[j]::l.drop (j+1):=by rw[List.append_assoc,List.append_assoc];rfl
        rw[e3]at this;exact this
      . rw[if_neg c];refine Tq.bf (bo_f c) (Tq.bt (dle0 _) (Tq.some (lg hj) (Tq.bt (apb (by rw[ti_sh];simp only[List.length_cons,List.length_nil];omega)) ?_)));have:=ih (j+1) (acc++[l[j]]) (by omega) (by simp;omega);rw[List.append_assoc acc,List.singleton_append]at this;exact this
  have k0:∀(d j:Nat),l.length-j=d→wS l s=(if s∈l.drop j then l else insS l s)→Tq (d+1) (fun k q=>spec_l15With.L0 (cl k) k l s q (j:Int)) (· =((wS l s,()),())):=by
    intro d
    induction d with
    | zero=>
      intro j hd he;refine Tq.succ ?_;show Tq _ (fun k q=>spec_l15With.step0 (cl k) k ..) _
      unfold spec_l15With.step0;rw[List.drop_of_length_le (by omega),if_neg (by simp)]at he;rw[he];exact Tq.bf (dnlt (by omega)) (Tq.diag (k1f l.length 0 [] rfl (by simp;omega)))
    | succ d ih=>
      intro j hd he;have hj:j<l.length:=by omega
      refine Tq.succ ?_;show Tq _ (fun k q=>spec_l15With.step0 (cl k) k ..) _
      unfold spec_l15With.step0;refine Tq.bt (dlt hj) (Tq.bt (dle0 _) (Tq.some (lg hj) ?_));by_cases c:l[j]=s
      . have e:wS l s=l:=if_pos (c▸List.getElem_mem hj);rw[e];exact Tq.bt ((eqSh3 _ _).trans (bo_t c)) (Tq.bt (apb (by rw[ti_sh];omega)) (Tq.ret rfl))
      . refine Tq.bf ((eqSh3 _ _).trans (bo_f c)) ?_;rw[ws hj (by omega)];refine ih (j+1) (by omega) ?_;rw[he,List.drop_eq_getElem_cons hj];by_cases m:s∈l.drop (j+1)
        . rw[if_pos m,if_pos (List.mem_cons_of_mem _ m)]
        . rw[if_neg m,if_neg (fun h=>(List.mem_cons.1 h).elim (fun x=>c x.symm) m)]
  refine Gv.ans (Gv.of (fun k=>spec_l15With.F_eq (cl k) k l s) ?_);unfold spec_l15With.F spec_l15With.Fm;exact Tq.diag (k0 l.length 0 rfl rfl)
theorem sShapes_ans {p:Pg}{t:Fs}(hsm:Small p)(ht:Ok p t):Ans n_spec_ShapesOf s_spec_ShapesOf (p,()) ((foldW [] (ous p t (cN p)),()),()):=by
  have a2:=sOk_ans p hsm;rw[bo_t ⟨t,ht⟩]at a2;have hc:=(cN_bd ht).1;have hl:=ous_len p t (cN p);refine Gv.ans (Gv.of (fun k=>spec_ShapesOf.F_eq (cl k) k p) ?_);unfold spec_ShapesOf.F spec_ShapesOf.Fm;refine Tq.ba a2 (Tq.bf rfl (Tq.ba (table_ans ht) ?_));generalize ous p t (cN p)=os at*;have key:∀(d j:Nat)(acc:List Sh),os.length-j=d→acc.length+d≤1024→Tq (d+1) (fun k q=>spec_ShapesOf.L0 (cl k) k ((ins p (cN p),os,()),()) q (j:Int) acc) (· =((foldW acc (os.drop j),()),())):=by
    intro d
    induction d with
    | zero=>
      intro j acc hd ha;refine Tq.succ ?_;show Tq _ (fun k q=>spec_ShapesOf.step0 (cl k) k ..) _
      unfold spec_ShapesOf.step0;rw[List.drop_of_length_le (by omega)];exact Tq.bf (dnlt (by dsimp only;omega)) (Tq.ret rfl)
    | succ d ih=>
      intro j acc hd ha;have hj:j<os.length:=by omega
      refine Tq.succ ?_;show Tq _ (fun k q=>spec_ShapesOf.step0 (cl k) k ..) _
      unfold spec_ShapesOf.step0;refine Tq.bt (dlt hj) (Tq.bt (dle0 _) (Tq.some (lg hj) (Tq.ba (sShape_ans _) (Tq.ba (with_ans acc _ (by omega)) ?_))));rw[ws hj (by omega),List.drop_eq_getElem_cons hj];have:=wS_len acc (shp os[j]);exact ih (j+1) (wS acc (shp os[j])) (by omega) (by omega)
  exact Tq.diag (key os.length 0 [] rfl (by simp;omega))
theorem iAll_yes {p:Pg}{t:Fs}(hsm:Small p)(ht:Ok p t):Ans n_impl_AllOutcomes s_impl_AllOutcomes (p,()) ((ddF [] (ous p t (cN p)),()),()):=by
  have a1:=iOk_ans p hsm;rw[bo_t ⟨t,ht⟩]at a1;refine Gv.ans (Gv.of (fun k=>impl_AllOutcomes.F_eq (cl k) k p) ?_);unfold impl_AllOutcomes.F impl_AllOutcomes.Fm;refine Tq.ba a1 (Tq.bf rfl (Tq.bind (allTally_gv ht).tq ?_));rintro⟨⟨st,⟨⟩⟩,⟨⟩⟩ hT;have e:st.2.1=_:=hT.list;refine Tq.ret ?_;dsimp only;rw[e,tal_fst];rfl
theorem iAll_no {p:Pg}(hsm:Small p)(h:¬IsOk p):Ans n_impl_AllOutcomes s_impl_AllOutcomes (p,()) (([],()),()):=by
  have a1:=iOk_ans p hsm;rw[bo_f h]at a1;refine Gv.ans (Gv.of (fun k=>impl_AllOutcomes.F_eq (cl k) k p) ?_);unfold impl_AllOutcomes.F impl_AllOutcomes.Fm;exact Tq.ba a1 (Tq.bt rfl (Tq.ret rfl))
theorem insI_step {l:List Sh}{s:Sh}{j:Nat}(hj:j<l.length):l.take j++insI (l.drop j) s=if ltS l[j] s then l.take (j+1)++insI (l.drop (j+1)) s else if l[j]=s then l else l.take j++s::l.drop j:=by
  have e:insI (l.drop j) s=if ltS l[j] s then l[j]::insI (l.drop (j+1)) s else if l[j]=s then l[j]::l.drop (j+1)else s::l[j]::l.drop (j+1):=by rw[List.drop_eq_getElem_cons hj];rfl
  rw[e];by_cases c:ltS l[j] s
  . rw[if_pos c,if_pos c,List.take_succ_eq_append_getElem hj,List.append_assoc];rfl
  . rw[if_neg c,if_neg c];by_cases c2:l[j]=s
    . rw[if_pos c2,if_pos c2,←List.drop_eq_getElem_cons hj,List.take_append_drop]
    . rw[if_neg c2,if_neg c2,←List.drop_eq_getElem_cons hj]
theorem take_drop_all {s:Sh}{l:List Sh}{j:Nat}:l.take j++([s]++(l.drop j).take (l.length-j))=l.take j++s::l.drop j:=by
  rw[List.take_of_length_le (show(l.drop j).length≤l.length-j by rw[List.length_drop];exact Nat.le_refl _)];rfl
theorem iShapes_loop(os:List Oc)(h:os.length≤1024):∀(d i:Nat)(acc:List Sh),os.length-i=d→acc.length+d≤1024→
    Tq (d+1) (fun k q=>impl_ShapesOf.L0 (cl k) k ((os,()),()) q (i:Int) acc) (· =(((os.drop i).foldl (fun l o=>insI l (shp o)) acc,()),())):=by
  intro d
  induction d with
  | zero=>
    intro i acc hd ha;refine Tq.succ ?_;show Tq _ (fun k q=>impl_ShapesOf.step0 (cl k) k ..) _
    unfold impl_ShapesOf.step0;rw[List.drop_of_length_le (by omega)];exact Tq.bf (dnlt (by dsimp only;omega)) (Tq.ret rfl)
  | succ d ih=>
    intro i acc hd ha;have hi:i<os.length:=by omega
    refine Tq.succ ?_;show Tq _ (fun k q=>impl_ShapesOf.step0 (cl k) k ..) _
    unfold impl_ShapesOf.step0;refine Tq.bt (dlt hi) (Tq.bt (dle0 _) (Tq.some (lg hi) (Tq.ba (iShape_ans _) ?_)));have e0:(os.drop i).foldl (fun l o=>insI l (shp o)) acc=(os.drop (i+1)).foldl (fun l o=>insI l (shp o)) (insI acc (shp os[i])):=by rw[List.drop_eq_getElem_cons hi];rfl
    rw[e0];have hlen:∀(l:List Sh)(s:Sh),(insI l s).length≤l.length+1:=by
      intro l s
      induction l with
      |nil=>simp[insI]
      |cons a l ih=>unfold insI;split<;>(try split)<;>simp<;>omega
    have hl2:=hlen acc (shp os[i]);have nxt:=ih (i+1) (insI acc (shp os[i])) (by omega) (by omega);generalize shp os[i]=s at*;have key:∀(c j:Nat),acc.length-j=c→j≤acc.length→acc.take j++insI (acc.drop j) s=insI acc s→∀(m:Nat→Nat)(N:Nat),(∀k,N≤k→c+1≤m k)→
        Tq (d+1) (fun k q=>impl_ShapesOf.L1 (cl k) k (i:Int) acc ((s,()),()) (impl_ShapesOf.L0 (cl k) k ((os,()),()) q) (m k) (j:Int)) (· =(((os.drop (i+1)).foldl (fun l o=>insI l (shp o)) (insI acc s),()),())):=by
      intro c
      induction c with
      | zero=>
        intro j hc hj he m N hm;refine Tq.fuel (F:=fun k q z=>impl_ShapesOf.L1 (cl k) k (i:Int) acc ((s,()),()) (impl_ShapesOf.L0 (cl k) k ((os,()),()) q) z (j:Int)) (G:=fun k q z=>impl_ShapesOf.step1 (cl k) k (i:Int) acc ((s,()),()) (impl_ShapesOf.L0 (cl k) k ((os,()),()) q) (impl_ShapesOf.L1 (cl k) k (i:Int) acc ((s,()),()) (impl_ShapesOf.L0 (cl k) k ((os,()),()) q) z) (j:Int)) (fun _ _ _=>rfl) hm ?_;unfold impl_ShapesOf.step1;refine Tq.bf (dnlt (by omega)) (Tq.bf (dnlt (by omega)) ?_);rw[Int.toNat_natCast];refine Tq.bt (dle0 _) (Tq.bt (by simp only[zs];omega) (Tq.bt (dle0 _) (Tq.bt (by simp only[zs];omega) (Tq.bt (apb (by rw[ti_sh];simp only[List.length_cons,List.length_nil,List.length_take,List.length_drop];omega)) (Tq.bt (by simp only[zs];omega) (Tq.bt (apb (by rw[ti_sh];simp only[List.length_append,List.length_cons,List.length_nil,List.length_take,List.length_drop];omega)) ?_))))));rw[ws hi (by omega),Nat.sub_zero];have hd0:acc.drop j=[]:=List.drop_of_length_le (by omega);rw[hd0]at he;have e1:List.take j acc++([(s.1,s.2.1,s.2.2.1,())]++List.take (acc.length-j) (List.drop j acc))=insI acc s:=by
          have:=take_drop_all (s:=s) (l:=acc) (j:=j);rw[hd0]at this⊢;exact this.trans he
        rw[e1];exact nxt
      | succ c ihc=>
        intro j hc hj he m N hm;have hj2:j<acc.length:=by omega
        have hA:Ans n_impl_ahead s_impl_ahead (acc[j],(s.1,s.2.1,s.2.2.1,()),()) ((bo (ltS acc[j] s),()),()):=iAhead_ans acc[j] s;rw[insI_step hj2]at he;refine Tq.fuel (F:=fun k q z=>impl_ShapesOf.L1 (cl k) k (i:Int) acc ((s,()),()) (impl_ShapesOf.L0 (cl k) k ((os,()),()) q) z (j:Int)) (G:=fun k q z=>impl_ShapesOf.step1 (cl k) k (i:Int) acc ((s,()),()) (impl_ShapesOf.L0 (cl k) k ((os,()),()) q) (impl_ShapesOf.L1 (cl k) k (i:Int) acc ((s,()),()) (impl_ShapesOf.L0 (cl k) k ((os,()),()) q) z) (j:Int)) (fun _ _ _=>rfl) (fun k hk=>by have:=hm k hk;omega) ?_;unfold impl_ShapesOf.step1;refine Tq.bt (dlt hj2) (Tq.bt (idx_ok hj2) (Tq.some (lg hj2) (Tq.ba hA ?_)));by_cases c1:ltS acc[j] s
        . rw[if_pos c1]at he;rw[ws hj2 (by omega)];exact Tq.bt (bo_t c1) (ihc (j+1) (by omega) (by omega) he _ N (fun k hk=>by have:=hm k hk;omega))
        . rw[if_neg c1]at he;refine Tq.bf (bo_f c1) (Tq.bt (dlt hj2) (Tq.bt (idx_ok hj2) (Tq.some (lg hj2) ?_)));by_cases c2:acc[j]=s
          . rw[if_pos c2]at he;rw[ws hi (by omega)];refine Tq.bt ((eqSh3 _ _).trans (bo_t c2)) ?_;rw[←he]at nxt⊢;exact nxt
          . rw[if_neg c2]at he;refine Tq.bf ((eqSh3 _ _).trans (bo_f c2)) ?_;rw[Int.toNat_natCast];refine Tq.bt (dle0 _) (Tq.bt (by simp only[zs];omega) (Tq.bt (dle0 _) (Tq.bt (by simp only[zs];omega) (Tq.bt (apb (by rw[ti_sh];simp only[List.length_cons,List.length_nil,List.length_take,List.length_drop];omega)) (Tq.bt (by simp only[zs];omega) (Tq.bt (apb (by rw[ti_sh];simp only[List.length_append,List.length_cons,List.length_nil,List.length_take,List.length_drop];omega)) ?_))))));rw[ws hi (by omega),Nat.sub_zero];have e1:List.take j acc++([(s.1,s.2.1,s.2.2.1,())]++List.take (acc.length-j) (List.drop j acc))=insI acc s:=(take_drop_all (s:=s) (l:=acc) (j:=j)).trans he;rw[e1];exact nxt
    exact key acc.length 0 rfl (Nat.zero_le _) rfl (fun k=>k) (acc.length+1) (fun k hk=>hk)
theorem shapes_agree {p:Pg}(hsm:Small p):∃l:List Sh,l.length≤1024∧Ans n_spec_ShapesOf s_spec_ShapesOf (p,()) ((l,()),())∧Ans n_impl_ShapesOf s_impl_ShapesOf (p,()) ((l,()),()):=by
  by_cases c:IsOk p
  . obtain⟨t,ht⟩:=c;have hc:=(cN_bd ht).1;have hl:=ous_len p t (cN p);have dl:=dd_len [] (ous p t (cN p));have fl:=foldW_len (ous p t (cN p)) [];simp only[List.length_nil]at dl fl;refine⟨foldW [] (ous p t (cN p)),by omega,sShapes_ans hsm ht,Gv.ans (Gv.of (fun k=>impl_ShapesOf.F_eq (cl k) k p) ?_)⟩;unfold impl_ShapesOf.F impl_ShapesOf.Fm;refine Tq.ba (iAll_yes hsm ht) ?_;have:=iShapes_loop (ddF [] (ous p t (cN p))) (by omega) _ 0 [] rfl (by simp;omega);rw[List.drop_zero,foldI _ List.Pairwise.nil,foldW_dd]at this;exact Tq.diag this
  . have a2:=sOk_ans p hsm;rw[bo_f c]at a2;refine⟨[],Nat.zero_le _,Gv.ans (Gv.of (fun k=>spec_ShapesOf.F_eq (cl k) k p) ?_),Gv.ans (Gv.of (fun k=>impl_ShapesOf.F_eq (cl k) k p) ?_)⟩
    . unfold spec_ShapesOf.F spec_ShapesOf.Fm;exact Tq.ba a2 (Tq.bt rfl (Tq.ret rfl))
    . unfold impl_ShapesOf.F impl_ShapesOf.Fm;exact Tq.ba (iAll_no hsm c) (Tq.diag (iShapes_loop [] (by simp) 0 0 [] rfl (by simp)))
end Go.Proofs.YtjgfofcgmcnblaaGreat.Pf
namespace Go.Proofs.YtjgfofcgmcnblaaGreat.Pf
open Go Go.Pv
theorem szInt64S_gv(a:List Int)(n:Int)(h0:0≤n)(hn:n≤1048576)(ha:a.length≤maxLen):Gv n_laws_szInt64S s_laws_szInt64S (a,n,()) (fun(r:(Int×Unit)×Unit)=>r.1.1≤n∧(r.1.1<0∨(a.length:Int)≤n)):=by
  have ha:a.length≤9223372036854775807:=ha;refine Gv.of (fun k=>laws_szInt64S.F_eq (cl k) k a n) ?_;unfold laws_szInt64S.F laws_szInt64S.Fm;rw[w64 (by omega) (by omega)];refine Tq.bif (fun h=>Tq.ret ?_) fun h=>Tq.ret ?_
  . exact⟨by show(-1:Int)≤n;omega,.inl (by show(-1:Int)<0;omega)⟩
  . have h:=of_decide_eq_false h;exact⟨by show n-(a.length:Int)≤n;omega,.inr (by omega)⟩
theorem szInputS_gv(a:List Ip)(n:Int)(h0:0≤n)(hn:n≤1048576)(ha:a.length≤maxLen):Gv n_laws_szInputS s_laws_szInputS (a,n,()) (fun(r:(Int×Unit)×Unit)=>r.1.1≤n∧(r.1.1<0∨(a.length:Int)≤n)):=by
  have ha:a.length≤9223372036854775807:=ha;refine Gv.of (fun k=>laws_szInputS.F_eq (cl k) k a n) ?_;unfold laws_szInputS.F laws_szInputS.Fm;rw[w64 (by omega) (by omega)];refine Tq.bif (fun h=>Tq.ret ?_) fun h=>Tq.ret ?_
  . exact⟨by show(-1:Int)≤n;omega,.inl (by show(-1:Int)<0;omega)⟩
  . have h:=of_decide_eq_false h;exact⟨by show n-(a.length:Int)≤n;omega,.inr (by omega)⟩
theorem szTermS_gv(a:List Tm)(n:Int)(h0:0≤n)(hn:n≤1048576)(ha:a.length≤maxLen):Gv n_laws_szTermS s_laws_szTermS (a,n,()) (fun(r:(Int×Unit)×Unit)=>r.1.1≤n∧(r.1.1<0∨(a.length:Int)≤n)):=by
  have ha:a.length≤9223372036854775807:=ha;refine Gv.of (fun k=>laws_szTermS.F_eq (cl k) k a n) ?_;unfold laws_szTermS.F laws_szTermS.Fm;rw[w64 (by omega) (by omega)];refine Tq.bif (fun h=>Tq.ret ?_) fun h=>Tq.ret ?_
  . exact⟨by show(-1:Int)≤n;omega,.inl (by show(-1:Int)<0;omega)⟩
  . have h:=of_decide_eq_false h;exact⟨by show n-(a.length:Int)≤n;omega,.inr (by omega)⟩
theorem szStmt_gv(x:Sm)(n:Int)(h0:0≤n)(hn:n≤1048576)(h1:x.2.2.1.length≤maxLen)(h2:x.2.2.2.1.length≤maxLen):
    Gv n_laws_szStmt s_laws_szStmt (x,n,()) (fun(r:(Int×Unit)×Unit)=>r.1.1≤n∧(r.1.1<0∨((x.2.2.1.length:Int)≤n∧(x.2.2.2.1.length:Int)≤n))):=by
  refine Gv.of (fun k=>laws_szStmt.F_eq (cl k) k x n) ?_;unfold laws_szStmt.F laws_szStmt.Fm;refine Tq.bind (szTermS_gv x.2.2.1 n h0 hn h1).tq fun(y:(Int×Unit)×Unit) hy=>?_
  obtain⟨hy1,hy2⟩:=hy;refine Tq.bif (fun h=>Tq.ret ⟨by show(-1:Int)≤n;omega,.inl (by show(-1:Int)<0;omega)⟩) fun h=>?_
  have h:¬y.1.1<0:=of_decide_eq_false h;refine Tq.bind (szTermS_gv x.2.2.2.1 y.1.1 (by omega) (by omega) h2).tq fun(z:(Int×Unit)×Unit) hz=>?_
  obtain⟨hz1,hz2⟩:=hz;refine Tq.bif (fun h=>Tq.ret ⟨by show(-1:Int)≤n;omega,.inl (by show(-1:Int)<0;omega)⟩) fun h'=>?_
  have h':¬z.1.1<0:=of_decide_eq_false h';exact Tq.ret ⟨by show z.1.1≤n;omega,.inr ⟨hy2.resolve_left h,by have:=hz2.resolve_left h';omega⟩⟩
theorem szStmtS_loop(a:List Sm)(ha:a.length≤1048576)(he:∀x∈a,x.2.2.1.length≤maxLen∧x.2.2.2.1.length≤maxLen):∀(d j:Nat)(m:Int),a.length-j=d→0≤m→m≤1048576→
    Tq (d+1) (fun k q=>laws_szStmtS.L0 (cl k) k a q m (j:Int)) (fun(r:(Int×Unit)×Unit)=>r.1.1≤m∧(r.1.1<0∨∀(i:Nat)(h:i<a.length),j≤i→a[i].2.2.1.length≤1048576∧a[i].2.2.2.1.length≤1048576))
  | 0,j,m,hd,h0,hm=>by
    refine Tq.succ ?_;show Tq _ (fun k q=>laws_szStmtS.step0 (cl k) k ..) _
    unfold laws_szStmtS.step0;exact Tq.bf (dnlt (by omega)) (Tq.ret ⟨Int.le_refl _,.inr fun i h hji=>by omega⟩)
  | d +1,j,m,hd,h0,hm=>by
    have hj:j<a.length:=by omega
    refine Tq.succ ?_;show Tq _ (fun k q=>laws_szStmtS.step0 (cl k) k ..) _
    unfold laws_szStmtS.step0;obtain⟨e1,e2⟩:=he a[j] (List.getElem_mem hj);refine Tq.bt (dlt hj) (Tq.bt (dle0 j) (Tq.some (lg hj) (Tq.bind (szStmt_gv a[j] m h0 hm e1 e2).tq fun(y:(Int×Unit)×Unit) hy=>?_)));obtain⟨hy1,hy2⟩:=hy;refine Tq.bif (fun h=>Tq.ret ⟨by show(-1:Int)≤m;omega,.inl (by show(-1:Int)<0;omega)⟩) fun h=>?_
    have h:¬y.1.1<0:=of_decide_eq_false h;rw[ws hj (by omega)];refine(szStmtS_loop a ha he d (j+1) y.1.1 (by omega) (by omega) (by omega)).mono fun(r:(Int×Unit)×Unit) hr=>⟨by have:=hr.1;omega,hr.2.imp id fun H i hi hji=>?_⟩
    rcases Nat.lt_or_ge j i with h3|h3
    . exact H i hi h3
    . obtain rfl:i=j:=by omega
      have:=hy2.resolve_left h;omega
theorem szStmtS_gv(a:List Sm)(n:Int)(h0:0≤n)(hn:n≤1048576)(ha:a.length≤maxLen)(he:∀x∈a,x.2.2.1.length≤maxLen∧x.2.2.2.1.length≤maxLen):
    Gv n_laws_szStmtS s_laws_szStmtS (a,n,()) (fun(r:(Int×Unit)×Unit)=>r.1.1≤n∧(r.1.1<0∨(a.length≤1048576∧∀x∈a,x.2.2.1.length≤1048576∧x.2.2.2.1.length≤1048576))):=by
  have ha:a.length≤9223372036854775807:=ha;refine Gv.of (fun k=>laws_szStmtS.F_eq (cl k) k a n) ?_;unfold laws_szStmtS.F laws_szStmtS.Fm;rw[w64 (by omega) (by omega)];refine Tq.bif (fun h=>Tq.ret ⟨by show(-1:Int)≤n;omega,.inl (by show(-1:Int)<0;omega)⟩) fun h=>?_
  have h:=of_decide_eq_false h;refine Tq.diag ((szStmtS_loop a (by omega) he a.length 0 (n-a.length) rfl (by omega) (by omega)).mono fun(r:(Int×Unit)×Unit) hr=>⟨by have:=hr.1;omega,hr.2.imp id fun H=>⟨by omega,fun x hx=>?_⟩⟩);obtain⟨i,hi,rfl⟩:=List.getElem_of_mem hx;exact H i hi (Nat.zero_le _)
def Lens(p:Pg):Prop:=p.2.1.length≤maxLen∧p.2.2.1.length≤maxLen∧p.2.2.2.2.1.length≤maxLen∧p.2.2.2.2.2.1.length≤maxLen∧∀x∈p.2.2.2.2.2.1,x.2.2.1.length≤maxLen∧x.2.2.2.1.length≤maxLen
theorem szProg_gv(p:Pg)(hp:Lens p):Gv n_laws_szProg s_laws_szProg (p,1048576,()) (fun(r:(Int×Unit)×Unit)=>r.1.1<0∨Small p):=by
  obtain⟨h1,h2,h3,h4,h5⟩:=hp;refine Gv.of (fun k=>laws_szProg.F_eq (cl k) k p 1048576) ?_;unfold laws_szProg.F laws_szProg.Fm;refine Tq.bind (szInputS_gv p.2.1 1048576 (by omega) (by omega) h1).tq fun(y:(Int×Unit)×Unit) hy=>?_
  obtain⟨a1,b1⟩:=hy;refine Tq.bif (fun h=>Tq.ret (.inl (by show(-1:Int)<0;omega))) fun h=>?_
  have c1:¬y.1.1<0:=of_decide_eq_false h;refine Tq.bind (szInputS_gv p.2.2.1 y.1.1 (by omega) (by omega) h2).tq fun(z:(Int×Unit)×Unit) hz=>?_
  obtain⟨a2,b2⟩:=hz;refine Tq.bif (fun h=>Tq.ret (.inl (by show(-1:Int)<0;omega))) fun h=>?_
  have c2:¬z.1.1<0:=of_decide_eq_false h;refine Tq.bind (szInt64S_gv p.2.2.2.2.1 z.1.1 (by omega) (by omega) h3).tq fun(u:(Int×Unit)×Unit) hu=>?_
  obtain⟨a3,b3⟩:=hu;refine Tq.bif (fun h=>Tq.ret (.inl (by show(-1:Int)<0;omega))) fun h=>?_
  have c3:¬u.1.1<0:=of_decide_eq_false h;refine Tq.bind (szStmtS_gv p.2.2.2.2.2.1 u.1.1 (by omega) (by omega) h4 h5).tq fun(v:(Int×Unit)×Unit) hv=>?_
  obtain⟨a4,b4⟩:=hv;refine Tq.bif (fun h=>Tq.ret (.inl (by show(-1:Int)<0;omega))) fun h=>?_
  have c4:¬v.1.1<0:=of_decide_eq_false h;have d4:=b4.resolve_left c4;have d1:=b1.resolve_left c1;have d2:=b2.resolve_left c2;have d3:=b3.resolve_left c3;exact Tq.ret (.inr ⟨by omega,by omega,by omega,d4.1,d4.2⟩)
end Go.Proofs.YtjgfofcgmcnblaaGreat.Pf
namespace Go.Proofs.YtjgfofcgmcnblaaGreat.Pf
open Go Go.Pv
theorem eqInput_ans(x:Ip):Ans n_laws_eqInput s_laws_eqInput (x,x,()) ((true,()),()):=by
  refine Gv.ans (Gv.of (fun k=>laws_eqInput.F_eq (cl k) k x x) ?_);unfold laws_eqInput.F laws_eqInput.Fm;exact Tq.bf (bne_self_eq_false _) (Tq.bf (bne_self_eq_false _) (Tq.ret rfl))
theorem eqTerm_ans(x:Tm):Ans n_laws_eqTerm s_laws_eqTerm (x,x,()) ((true,()),()):=by
  refine Gv.ans (Gv.of (fun k=>laws_eqTerm.F_eq (cl k) k x x) ?_);unfold laws_eqTerm.F laws_eqTerm.Fm;exact Tq.bf (bne_self_eq_false _) (Tq.bf (bne_self_eq_false _) (Tq.ret rfl))
theorem eqInt64S_loop(a:List Int)(ha:a.length≤1048576):∀(d j:Nat),a.length-j=d→
    Tq (d+1) (fun k q=>laws_eqInt64S.L0 (cl k) k a a q (j:Int)) (· =((true,()),()))
  | 0,j,hd=>by
    refine Tq.succ ?_;show Tq _ (fun k q=>laws_eqInt64S.step0 (cl k) k ..) _
    unfold laws_eqInt64S.step0;exact Tq.bf (dnlt (by omega)) (Tq.ret rfl)
  | d+1,j,hd=>by
    have hj:j<a.length:=by omega
    refine Tq.succ ?_;show Tq _ (fun k q=>laws_eqInt64S.step0 (cl k) k ..) _
    unfold laws_eqInt64S.step0;refine Tq.bt (dlt hj) (Tq.bt (dle0 j) (Tq.some (lg hj) (Tq.bt (dle0 j) (Tq.some (lg hj) (Tq.bf (bne_self_eq_false _) ?_)))));rw[ws hj (by omega)];exact eqInt64S_loop a ha d (j+1) (by omega)
theorem eqInt64S_ans(a:List Int)(ha:a.length≤1048576):Ans n_laws_eqInt64S s_laws_eqInt64S (a,a,()) ((true,()),()):=by
  refine Gv.ans (Gv.of (fun k=>laws_eqInt64S.F_eq (cl k) k a a) ?_);unfold laws_eqInt64S.F laws_eqInt64S.Fm;exact Tq.bf (bne_self_eq_false _) (Tq.diag (eqInt64S_loop a ha a.length 0 rfl))
theorem eqInputS_loop(a:List Ip)(ha:a.length≤1048576):∀(d j:Nat),a.length-j=d→
    Tq (d+1) (fun k q=>laws_eqInputS.L0 (cl k) k a a q (j:Int)) (· =((true,()),()))
  | 0,j,hd=>by
    refine Tq.succ ?_;show Tq _ (fun k q=>laws_eqInputS.step0 (cl k) k ..) _
    unfold laws_eqInputS.step0;exact Tq.bf (dnlt (by omega)) (Tq.ret rfl)
  | d+1,j,hd=>by
    have hj:j<a.length:=by omega
    refine Tq.succ ?_;show Tq _ (fun k q=>laws_eqInputS.step0 (cl k) k ..) _
    unfold laws_eqInputS.step0;refine Tq.bt (dlt hj) (Tq.bt (dle0 j) (Tq.some (lg hj) (Tq.bt (dle0 j) (Tq.some (lg hj) (Tq.bind (eqInput_ans a[j]).tq fun y hy=>?_)))));subst hy;refine Tq.bf rfl ?_;rw[ws hj (by omega)];exact eqInputS_loop a ha d (j+1) (by omega)
theorem eqInputS_ans(a:List Ip)(ha:a.length≤1048576):Ans n_laws_eqInputS s_laws_eqInputS (a,a,()) ((true,()),()):=by
  refine Gv.ans (Gv.of (fun k=>laws_eqInputS.F_eq (cl k) k a a) ?_);unfold laws_eqInputS.F laws_eqInputS.Fm;exact Tq.bf (bne_self_eq_false _) (Tq.diag (eqInputS_loop a ha a.length 0 rfl))
theorem eqTermS_loop(a:List Tm)(ha:a.length≤1048576):∀(d j:Nat),a.length-j=d→
    Tq (d+1) (fun k q=>laws_eqTermS.L0 (cl k) k a a q (j:Int)) (· =((true,()),()))
  | 0,j,hd=>by
    refine Tq.succ ?_;show Tq _ (fun k q=>laws_eqTermS.step0 (cl k) k ..) _
    unfold laws_eqTermS.step0;exact Tq.bf (dnlt (by omega)) (Tq.ret rfl)
  | d+1,j,hd=>by
    have hj:j<a.length:=by omega
    refine Tq.succ ?_;show Tq _ (fun k q=>laws_eqTermS.step0 (cl k) k ..) _
    unfold laws_eqTermS.step0;refine Tq.bt (dlt hj) (Tq.bt (dle0 j) (Tq.some (lg hj) (Tq.bt (dle0 j) (Tq.some (lg hj) (Tq.bind (eqTerm_ans a[j]).tq fun y hy=>?_)))));subst hy;refine Tq.bf rfl ?_;rw[ws hj (by omega)];exact eqTermS_loop a ha d (j+1) (by omega)
theorem eqTermS_ans(a:List Tm)(ha:a.length≤1048576):Ans n_laws_eqTermS s_laws_eqTermS (a,a,()) ((true,()),()):=by
  refine Gv.ans (Gv.of (fun k=>laws_eqTermS.F_eq (cl k) k a a) ?_);unfold laws_eqTermS.F laws_eqTermS.Fm;exact Tq.bf (bne_self_eq_false _) (Tq.diag (eqTermS_loop a ha a.length 0 rfl))
theorem eqStmt_ans(x:Sm)(h1:x.2.2.1.length≤1048576)(h2:x.2.2.2.1.length≤1048576):Ans n_laws_eqStmt s_laws_eqStmt (x,x,()) ((true,()),()):=by
  refine Gv.ans (Gv.of (fun k=>laws_eqStmt.F_eq (cl k) k x x) ?_);unfold laws_eqStmt.F laws_eqStmt.Fm;refine Tq.bf (bne_self_eq_false _) (Tq.bf (bne_self_eq_false _) (Tq.bind (eqTermS_ans x.2.2.1 h1).tq fun y hy=>?_));subst hy;refine Tq.bf rfl (Tq.bind (eqTermS_ans x.2.2.2.1 h2).tq fun y hy=>?_);subst hy;exact Tq.bf rfl (Tq.ret rfl)
theorem eqStmtS_loop(a:List Sm)(ha:a.length≤1048576)(he:∀x∈a,Ans n_laws_eqStmt s_laws_eqStmt (x,x,()) ((true,()),())):∀(d j:Nat),a.length-j=d→
    Tq (d+1) (fun k q=>laws_eqStmtS.L0 (cl k) k a a q (j:Int)) (· =((true,()),()))
  | 0,j,hd=>by
    refine Tq.succ ?_;show Tq _ (fun k q=>laws_eqStmtS.step0 (cl k) k ..) _
    unfold laws_eqStmtS.step0;exact Tq.bf (dnlt (by omega)) (Tq.ret rfl)
  | d+1,j,hd=>by
    have hj:j<a.length:=by omega
    refine Tq.succ ?_;show Tq _ (fun k q=>laws_eqStmtS.step0 (cl k) k ..) _
    unfold laws_eqStmtS.step0;refine Tq.bt (dlt hj) (Tq.bt (dle0 j) (Tq.some (lg hj) (Tq.bt (dle0 j) (Tq.some (lg hj) (Tq.bind (he a[j] (List.getElem_mem hj)).tq fun y hy=>?_)))));subst hy;refine Tq.bf rfl ?_;rw[ws hj (by omega)];exact eqStmtS_loop a ha he d (j+1) (by omega)
theorem eqStmtS_ans(a:List Sm)(ha:a.length≤1048576)(he:∀x∈a,Ans n_laws_eqStmt s_laws_eqStmt (x,x,()) ((true,()),())):Ans n_laws_eqStmtS s_laws_eqStmtS (a,a,()) ((true,()),()):=by
  refine Gv.ans (Gv.of (fun k=>laws_eqStmtS.F_eq (cl k) k a a) ?_);unfold laws_eqStmtS.F laws_eqStmtS.Fm;exact Tq.bf (bne_self_eq_false _) (Tq.diag (eqStmtS_loop a ha he a.length 0 rfl))
theorem eqProg_ans(p:Pg)(h:Small p):Ans n_laws_eqProg s_laws_eqProg (p,p,()) ((true,()),()):=by
  obtain⟨h1,h2,h3,h4,h5⟩:=h;refine Gv.ans (Gv.of (fun k=>laws_eqProg.F_eq (cl k) k p p) ?_);unfold laws_eqProg.F laws_eqProg.Fm;refine Tq.bf (bne_self_eq_false _) (Tq.bind (eqInputS_ans p.2.1 h1).tq fun y hy=>?_);subst hy;refine Tq.bf rfl (Tq.bind (eqInputS_ans p.2.2.1 h2).tq fun y hy=>?_);subst hy;refine Tq.bf rfl (Tq.bf (bne_self_eq_false _) (Tq.bind (eqInt64S_ans p.2.2.2.2.1 h3).tq fun y hy=>?_));subst hy;refine Tq.bf rfl (Tq.bind (eqStmtS_ans p.2.2.2.2.2.1 h4 fun x hx=>eqStmt_ans x (h5 x hx).1 (h5 x hx).2).tq fun y hy=>?_);subst hy;exact Tq.bf rfl (Tq.ret rfl)
end Go.Proofs.YtjgfofcgmcnblaaGreat.Pf
namespace Go.Proofs.YtjgfofcgmcnblaaGreat.Pf
open Go Go.Pv IntKind
abbrev Y9_0:Type:=(Int×((List (Int×(Int×Unit)))×((List (Int×(Int×Unit)))×(Int×((List Int)×((List (Int×(Int×((List (Int×(Int×Unit)))×((List (Int×(Int×Unit)))×Unit)))))×Unit))))))
abbrev Y9_1:Type:=((List (Int×(Int×((List (Int×(Int×Unit)))×((List (Int×(Int×Unit)))×Unit))))))
abbrev Y9_2:Type:=(List (Int×(Int×((List (Int×(Int×Unit)))×((List (Int×(Int×Unit)))×Unit)))))
abbrev Y9_3:Type:=(Int×Int×List (Int×Int×Unit)×List (Int×Int×Unit)×Unit)
abbrev Y9_4:Type:=((Int×Unit)×List (Int×Int×Unit)×Unit)
abbrev Y9_5:Type:=((Int)×(Int)×((List (Int×(Int×Unit)))))
abbrev Y9_6:Type:=((List (Int×(Int×Unit))))
abbrev Y9_7:Type:=(List (Int×(Int×Unit)))
namespace laws_markInt64S
abbrev R:=((Int×Unit)×((List Int)×Unit))
def S0(v0_0:Int)(v0_1:Int)(v0_2:(List Int)):St:=⟨mkS 19 [(0,.ref [500000]),(1,.v tI v0_0),(5,.v tI v0_1)],[([500000],.list 2 tI v0_2)]⟩
def step0(call:Cl)(k:Nat)(r0:(Int)→(Int)→((List Int))→Option R)(v0_0:Int)(v0_1:Int)(v0_2:(List Int)):Option R:=bif decide (v0_1<(↑v0_2.length:Int))then bif decide (0≤v0_1)&&decide (v0_1.toNat<v0_2.length)then(lget v0_2 v0_1.toNat).bind fun(y0:Int)=>r0 (i64.wrap (v0_0+1)) (i64.wrap (v0_1+1)) (v0_2.set v0_1.toNat v0_0)else none else some ((v0_0,()),v0_2,())
def L0(call:Cl)(k:Nat):Nat→(Int)→(Int)→((List Int))→Option R|0,_,_,_=>none|n+1,v0_0,v0_1,v0_2=>step0 call k (L0 call k n) v0_0 v0_1 v0_2
def Fm(call:Cl)(k:Nat)(l0:(Int)→(Int)→((List Int))→Option R)(a0:(List Int))(a1:Int):Option R:=l0 a1 0 a0
def F(call:Cl)(k:Nat)(a0:(List Int))(a1:Int):Option R:=Fm call k (fun v0_0_ v0_1_ v0_2_=>L0 call k k v0_0_ v0_1_ v0_2_) a0 a1
theorem L0_eq(call:Cl)(k:Nat)(J:Nat→St→Option R)(a0:(List Int))(a1:Int):∀(n:Nat)(x:((Int)×(Int)×((List Int)))),siteI E call n_laws_markInt64S k s_laws_markInt64S (a0,a1,()) J 0 n (S0 x.1 x.2.1 x.2.2)=L0 call k n x.1 x.2.1 x.2.2:=by
  refine loop_eq (s:=s_laws_markInt64S) (fun x=>S0 x.1 x.2.1 x.2.2) (fun n x=>L0 call k n x.1 x.2.1 x.2.2) (fun r x=>step0 call k (fun v0_0 v0_1 v0_2=>r (v0_0,v0_1,v0_2)) x.1 x.2.1 x.2.2) (fun _=>rfl) (fun _ _=>rfl) fun J0 x=>?_
  kernel_rfl
theorem F_eq(call:Cl)(k:Nat)(a0:(List Int))(a1:Int):bodyK E call n_laws_markInt64S k s_laws_markInt64S (a0,a1,())=F call k a0 a1:=by
  exact Eq.trans (b:=Fm call k (fun v0_0_ v0_1_ v0_2_=>siteI E call n_laws_markInt64S k s_laws_markInt64S (a0,a1,()) (fun _ _=>none) 0 k (S0 v0_0_ v0_1_ v0_2_)) a0 a1) (by kernel_rfl) (congrArg (fun l=>Fm call k l a0 a1) (funext fun v0_0_=>funext fun v0_1_=>funext fun v0_2_=>L0_eq call k (fun _ _=>none) a0 a1 k (v0_0_,v0_1_,v0_2_)))
end laws_markInt64S
namespace laws_markInputS
abbrev R:=((Int×Unit)×((List (Int×(Int×Unit)))×Unit))
def S0(v0_0:Int)(v0_1:Int)(v0_2:Y9_7):St:=⟨mkS 27 [(0,.ref [500000]),(1,.v tI v0_0),(5,.v tI v0_1)],[([500000],.list 59 tTm v0_2)]⟩
def step0(call:Cl)(k:Nat)(r0:(Int)→(Int)→Y9_6→Option R)(v0_0:Int)(v0_1:Int)(v0_2:Y9_7):Option R:=bif decide (v0_1<(↑v0_2.length:Int))then bif decide (0≤v0_1)&&decide (v0_1.toNat<v0_2.length)then(lget v0_2 v0_1.toNat).bind fun(y0:Int×Int×Unit)=>bif decide (0≤v0_1)&&decide (v0_1.toNat<(v0_2.set v0_1.toNat (v0_0,y0.2)).length)then(lget (v0_2.set v0_1.toNat (v0_0,y0.2)) v0_1.toNat).bind fun(y1:Int×Int×Unit)=>r0 (i64.wrap (i64.wrap (v0_0+1)+1)) (i64.wrap (v0_1+1)) ((v0_2.set v0_1.toNat (v0_0,y0.2)).set v0_1.toNat (y1.1,i64.wrap (v0_0+1),y1.2.2))else none else none else some ((v0_0,()),v0_2,())
def L0(call:Cl)(k:Nat):Nat→(Int)→(Int)→Y9_6→Option R|0,_,_,_=>none|n+1,v0_0,v0_1,v0_2=>step0 call k (L0 call k n) v0_0 v0_1 v0_2
def Fm(call:Cl)(k:Nat)(l0:(Int)→(Int)→Y9_6→Option R)(a0:Y9_7)(a1:Int):Option R:=l0 a1 0 a0
def F(call:Cl)(k:Nat)(a0:Y9_7)(a1:Int):Option R:=Fm call k (fun v0_0_ v0_1_ v0_2_=>L0 call k k v0_0_ v0_1_ v0_2_) a0 a1
theorem L0_eq(call:Cl)(k:Nat)(J:Nat→St→Option R)(a0:Y9_7)(a1:Int):∀(n:Nat)(x:Y9_5),siteI E call n_laws_markInputS k s_laws_markInputS (a0,a1,()) J 0 n (S0 x.1 x.2.1 x.2.2)=L0 call k n x.1 x.2.1 x.2.2:=by
  refine loop_eq (s:=s_laws_markInputS) (fun x=>S0 x.1 x.2.1 x.2.2) (fun n x=>L0 call k n x.1 x.2.1 x.2.2) (fun r x=>step0 call k (fun v0_0 v0_1 v0_2=>r (v0_0,v0_1,v0_2)) x.1 x.2.1 x.2.2) (fun _=>rfl) (fun _ _=>rfl) fun J0 x=>?_
  kernel_rfl
theorem F_eq(call:Cl)(k:Nat)(a0:Y9_7)(a1:Int):bodyK E call n_laws_markInputS k s_laws_markInputS (a0,a1,())=F call k a0 a1:=by
  exact Eq.trans (b:=Fm call k (fun v0_0_ v0_1_ v0_2_=>siteI E call n_laws_markInputS k s_laws_markInputS (a0,a1,()) (fun _ _=>none) 0 k (S0 v0_0_ v0_1_ v0_2_)) a0 a1) (by kernel_rfl) (congrArg (fun l=>Fm call k l a0 a1) (funext fun v0_0_=>funext fun v0_1_=>funext fun v0_2_=>L0_eq call k (fun _ _=>none) a0 a1 k (v0_0_,v0_1_,v0_2_)))
end laws_markInputS
namespace laws_markTermS
abbrev R:=((Int×Unit)×((List (Int×(Int×Unit)))×Unit))
def S0(v0_0:Int)(v0_1:Int)(v0_2:Y9_7):St:=⟨mkS 27 [(0,.ref [500000]),(1,.v tI v0_0),(5,.v tI v0_1)],[([500000],.list 184 tTm v0_2)]⟩
def step0(call:Cl)(k:Nat)(r0:(Int)→(Int)→Y9_6→Option R)(v0_0:Int)(v0_1:Int)(v0_2:Y9_7):Option R:=bif decide (v0_1<(↑v0_2.length:Int))then bif decide (0≤v0_1)&&decide (v0_1.toNat<v0_2.length)then(lget v0_2 v0_1.toNat).bind fun(y0:Int×Int×Unit)=>bif decide (0≤v0_1)&&decide (v0_1.toNat<(v0_2.set v0_1.toNat (v0_0,y0.2)).length)then(lget (v0_2.set v0_1.toNat (v0_0,y0.2)) v0_1.toNat).bind fun(y1:Int×Int×Unit)=>r0 (i64.wrap (i64.wrap (v0_0+1)+1)) (i64.wrap (v0_1+1)) ((v0_2.set v0_1.toNat (v0_0,y0.2)).set v0_1.toNat (y1.1,i64.wrap (v0_0+1),y1.2.2))else none else none else some ((v0_0,()),v0_2,())
def L0(call:Cl)(k:Nat):Nat→(Int)→(Int)→Y9_6→Option R|0,_,_,_=>none|n+1,v0_0,v0_1,v0_2=>step0 call k (L0 call k n) v0_0 v0_1 v0_2
def Fm(call:Cl)(k:Nat)(l0:(Int)→(Int)→Y9_6→Option R)(a0:Y9_7)(a1:Int):Option R:=l0 a1 0 a0
def F(call:Cl)(k:Nat)(a0:Y9_7)(a1:Int):Option R:=Fm call k (fun v0_0_ v0_1_ v0_2_=>L0 call k k v0_0_ v0_1_ v0_2_) a0 a1
theorem L0_eq(call:Cl)(k:Nat)(J:Nat→St→Option R)(a0:Y9_7)(a1:Int):∀(n:Nat)(x:Y9_5),siteI E call n_laws_markTermS k s_laws_markTermS (a0,a1,()) J 0 n (S0 x.1 x.2.1 x.2.2)=L0 call k n x.1 x.2.1 x.2.2:=by
  refine loop_eq (s:=s_laws_markTermS) (fun x=>S0 x.1 x.2.1 x.2.2) (fun n x=>L0 call k n x.1 x.2.1 x.2.2) (fun r x=>step0 call k (fun v0_0 v0_1 v0_2=>r (v0_0,v0_1,v0_2)) x.1 x.2.1 x.2.2) (fun _=>rfl) (fun _ _=>rfl) fun J0 x=>?_
  kernel_rfl
theorem F_eq(call:Cl)(k:Nat)(a0:Y9_7)(a1:Int):bodyK E call n_laws_markTermS k s_laws_markTermS (a0,a1,())=F call k a0 a1:=by
  exact Eq.trans (b:=Fm call k (fun v0_0_ v0_1_ v0_2_=>siteI E call n_laws_markTermS k s_laws_markTermS (a0,a1,()) (fun _ _=>none) 0 k (S0 v0_0_ v0_1_ v0_2_)) a0 a1) (by kernel_rfl) (congrArg (fun l=>Fm call k l a0 a1) (funext fun v0_0_=>funext fun v0_1_=>funext fun v0_2_=>L0_eq call k (fun _ _=>none) a0 a1 k (v0_0_,v0_1_,v0_2_)))
end laws_markTermS
namespace laws_markStmtS
abbrev R:=((Int×Unit)×((List (Int×(Int×((List (Int×(Int×Unit)))×((List (Int×(Int×Unit)))×Unit)))))×Unit))
def S0(v0_0:Int)(v0_1:Int)(v0_2:Y9_2):St:=⟨mkS 41 [(0,.ref [500000]),(1,.v tI v0_0),(5,.v tI v0_1)],[([500000],.list 114 (.pair tI (.pair tI (.pair (.own 184 tTm) (.pair (.own 184 tTm) .unit)))) v0_2)]⟩
def step0(call:Cl)(k:Nat)(r0:(Int)→(Int)→Y9_1→Option R)(v0_0:Int)(v0_1:Int)(v0_2:Y9_2):Option R:=bif decide (v0_1<(↑v0_2.length:Int))then bif decide (0≤v0_1)&&decide (v0_1.toNat<v0_2.length)then(lget v0_2 v0_1.toNat).bind fun(y0:Y9_3)=>bif decide (0≤v0_1)&&decide (v0_1.toNat<(v0_2.set v0_1.toNat (v0_0,y0.2)).length)then(lget (v0_2.set v0_1.toNat (v0_0,y0.2)) v0_1.toNat).bind fun(y1:Y9_3)=>bif decide (0≤v0_1)&&decide (v0_1.toNat<((v0_2.set v0_1.toNat (v0_0,y0.2)).set v0_1.toNat (y1.1,i64.wrap (v0_0+1),y1.2.2)).length)then(lget ((v0_2.set v0_1.toNat (v0_0,y0.2)).set v0_1.toNat (y1.1,i64.wrap (v0_0+1),y1.2.2)) v0_1.toNat).bind fun(y2:Y9_3)=>(call 182 s_laws_markTermS (y2.2.2.1,i64.wrap (i64.wrap (v0_0+1)+1),())).bind fun(y3:Y9_4)=>(lget ((v0_2.set v0_1.toNat (v0_0,y0.2)).set v0_1.toNat (y1.1,i64.wrap (v0_0+1),y1.2.2)) v0_1.toNat).bind fun(y4:Y9_3)=>bif decide (0≤v0_1)&&decide (v0_1.toNat<(((v0_2.set v0_1.toNat (v0_0,y0.2)).set v0_1.toNat (y1.1,i64.wrap (v0_0+1),y1.2.2)).set v0_1.toNat (y4.1,y4.2.1,y3.2.1,y4.2.2.2)).length)then(lget (((v0_2.set v0_1.toNat (v0_0,y0.2)).set v0_1.toNat (y1.1,i64.wrap (v0_0+1),y1.2.2)).set v0_1.toNat (y4.1,y4.2.1,y3.2.1,y4.2.2.2)) v0_1.toNat).bind fun(y5:Y9_3)=>(call 182 s_laws_markTermS (y5.2.2.2.1,y3.1.1,())).bind fun(y6:Y9_4)=>(lget (((v0_2.set v0_1.toNat (v0_0,y0.2)).set v0_1.toNat (y1.1,i64.wrap (v0_0+1),y1.2.2)).set v0_1.toNat (y4.1,y4.2.1,y3.2.1,y4.2.2.2)) v0_1.toNat).bind fun(y7:Y9_3)=>r0 y6.1.1 (i64.wrap (v0_1+1)) ((((v0_2.set v0_1.toNat (v0_0,y0.2)).set v0_1.toNat (y1.1,i64.wrap (v0_0+1),y1.2.2)).set v0_1.toNat (y4.1,y4.2.1,y3.2.1,y4.2.2.2)).set v0_1.toNat (y7.1,y7.2.1,y7.2.2.1,y6.2.1,y7.2.2.2.2))else none else none else none else none else some ((v0_0,()),v0_2,())
def L0(call:Cl)(k:Nat):Nat→(Int)→(Int)→Y9_1→Option R|0,_,_,_=>none|n+1,v0_0,v0_1,v0_2=>step0 call k (L0 call k n) v0_0 v0_1 v0_2
def Fm(call:Cl)(k:Nat)(l0:(Int)→(Int)→Y9_1→Option R)(a0:Y9_2)(a1:Int):Option R:=l0 a1 0 a0
def F(call:Cl)(k:Nat)(a0:Y9_2)(a1:Int):Option R:=Fm call k (fun v0_0_ v0_1_ v0_2_=>L0 call k k v0_0_ v0_1_ v0_2_) a0 a1
theorem L0_eq(call:Cl)(k:Nat)(J:Nat→St→Option R)(a0:Y9_2)(a1:Int):∀(n:Nat)(x:((Int)×(Int)×Y9_1)),siteI E call n_laws_markStmtS k s_laws_markStmtS (a0,a1,()) J 0 n (S0 x.1 x.2.1 x.2.2)=L0 call k n x.1 x.2.1 x.2.2:=by
  refine loop_eq (s:=s_laws_markStmtS) (fun x=>S0 x.1 x.2.1 x.2.2) (fun n x=>L0 call k n x.1 x.2.1 x.2.2) (fun r x=>step0 call k (fun v0_0 v0_1 v0_2=>r (v0_0,v0_1,v0_2)) x.1 x.2.1 x.2.2) (fun _=>rfl) (fun _ _=>rfl) fun J0 x=>?_
  kernel_rfl
theorem F_eq(call:Cl)(k:Nat)(a0:Y9_2)(a1:Int):bodyK E call n_laws_markStmtS k s_laws_markStmtS (a0,a1,())=F call k a0 a1:=by
  exact Eq.trans (b:=Fm call k (fun v0_0_ v0_1_ v0_2_=>siteI E call n_laws_markStmtS k s_laws_markStmtS (a0,a1,()) (fun _ _=>none) 0 k (S0 v0_0_ v0_1_ v0_2_)) a0 a1) (by kernel_rfl) (congrArg (fun l=>Fm call k l a0 a1) (funext fun v0_0_=>funext fun v0_1_=>funext fun v0_2_=>L0_eq call k (fun _ _=>none) a0 a1 k (v0_0_,v0_1_,v0_2_)))
end laws_markStmtS
namespace laws_markProg
abbrev R:=((Int×Unit)×((Int×((List (Int×(Int×Unit)))×((List (Int×(Int×Unit)))×(Int×((List Int)×((List (Int×(Int×((List (Int×(Int×Unit)))×((List (Int×(Int×Unit)))×Unit)))))×Unit))))))×Unit))
def Fm(call:Cl)(k:Nat)(a0:Y9_0)(a1:Int):Option R:=(call 136 s_laws_markInputS (a0.2.1,a1,())).bind fun(y0:Y9_4)=>(call 136 s_laws_markInputS (a0.2.2.1,y0.1.1,())).bind fun(y1:Y9_4)=>(call 76 s_laws_markInt64S (a0.2.2.2.2.1,y1.1.1,())).bind fun(y2:((Int×Unit)×List Int×Unit))=>(call 137 s_laws_markStmtS (a0.2.2.2.2.2.1,y2.1.1,())).bind fun(y3:((Int×Unit)×List Y9_3×Unit))=>some ((y3.1.1,()),(a0.1,y0.2.1,y1.2.1,a0.2.2.2.1,y2.2.1,y3.2.1,a0.2.2.2.2.2.2),())
def F(call:Cl)(k:Nat)(a0:Y9_0)(a1:Int):Option R:=Fm call k a0 a1
theorem F_eq(call:Cl)(k:Nat)(a0:Y9_0)(a1:Int):bodyK E call n_laws_markProg k s_laws_markProg (a0,a1,())=F call k a0 a1:=by kernel_rfl
end laws_markProg
end Go.Proofs.YtjgfofcgmcnblaaGreat.Pf
namespace Go.Proofs.YtjgfofcgmcnblaaGreat.Pf
open Go Go.Pv
def Mk(l:List Int)(k:Int):Prop:=∀(i:Nat)(h:i<l.length),l[i]=k+i
abbrev R1:=(Int×Unit)×(List Int×Unit)
theorem mark_loop(m:Int)(hm:0≤m)(hm2:m≤1125899906842624):∀(d j:Nat)(l:List Int),l.length-j=d→j≤l.length→l.length≤1048576→(∀(i:Nat)(h:i<l.length),i<j→l[i]=m+i)→
    Tq (d+1) (fun k q=>laws_markInt64S.L0 (cl k) k q (m+j) (j:Int) l) (fun(r:R1)=>∃l',r=((m+l.length,()),l',())∧l'.length=l.length∧Mk l' m):=by
  intro d
  induction d with
  | zero=>
    intro j l hd hj hl H;obtain rfl:j=l.length:=by omega
    refine Tq.succ ?_;show Tq _ (fun k q=>laws_markInt64S.step0 (cl k) k ..) _
    unfold laws_markInt64S.step0;exact Tq.bf (dnlt (Nat.le_refl _)) (Tq.ret ⟨l,rfl,rfl,fun i h=>H i h h⟩)
  | succ d ih=>
    intro j l hd hj hl H;have hj:j<l.length:=by omega
    refine Tq.succ ?_;show Tq _ (fun k q=>laws_markInt64S.step0 (cl k) k ..) _
    unfold laws_markInt64S.step0;refine Tq.bt (dlt hj) (Tq.bt (idx_ok hj) (Tq.some (lg hj) ?_));rw[ws hj (by omega),w64 (by omega) (by omega),Int.toNat_natCast,show m+(j:Int)+1=m+((j+1:Nat):Int) by omega];have:=ih (j+1) (l.set j (m+j)) (by rw[List.length_set];omega) (by rw[List.length_set];omega) (by rw[List.length_set];exact hl) (fun i h hi=>by
      rcases Nat.lt_or_ge i j with h1|h1
      . rw[List.getElem_set_ne (by omega)];exact H i (by rw[List.length_set]at h;exact h) h1
      . obtain rfl:i=j:=by omega
        rw[List.getElem_set_self])
    rw[List.length_set]at this;exact this
theorem mark_gv(l:List Int)(m:Int)(hm:0≤m)(hm2:m≤1125899906842624)(hl:l.length≤1048576):Gv n_laws_markInt64S s_laws_markInt64S (l,m,()) (fun(r:R1)=>∃l',r=((m+l.length,()),l',())∧l'.length=l.length∧Mk l' m):=by
  refine Gv.of (fun k=>laws_markInt64S.F_eq (cl k) k l m) ?_;unfold laws_markInt64S.F laws_markInt64S.Fm;have:=mark_loop m hm hm2 l.length 0 l rfl (Nat.zero_le _) hl (fun i h hi=>by omega);rw[show m+((0:Nat):Int)=m by omega]at this;exact Tq.diag this
abbrev R3:=(Int×Unit)×(List Tm×Unit)
theorem lset {α:Type}{l:List α}{j:Nat}{a:α}(hj:j<l.length):lget (l.set j a) j=some a:=by
  unfold lget;exact List.getElem?_set_self hj
theorem idx2 {j n:Nat}(h:j<n):(decide ((0:Int)≤(j:Int))&&decide (j<n))=true:=by
  rw[dle0,decide_eq_true h];rfl
theorem markI_loop:∀(d j:Nat)(l:List Ip)(z:Int),l.length-j=d→l.length≤1048576→0≤z→z+2*d≤1125899906842624→
    Tq (d+1) (fun k q=>laws_markInputS.L0 (cl k) k q z (j:Int) l) (fun(r:R3)=>∃l',r=((z+2*d,()),l',())∧l'.length=l.length):=by
  intro d
  induction d with
  | zero=>
    intro j l z hd hl h0 hz;refine Tq.succ ?_;show Tq _ (fun k q=>laws_markInputS.step0 (cl k) k ..) _
    unfold laws_markInputS.step0;exact Tq.bf (dnlt (by omega)) (Tq.ret ⟨l,by rw[show z+2*((0:Nat):Int)=z by omega],rfl⟩)
  | succ d ih=>
    intro j l z hd hl h0 hz;have hj:j<l.length:=by omega
    refine Tq.succ ?_;show Tq _ (fun k q=>laws_markInputS.step0 (cl k) k ..) _
    unfold laws_markInputS.step0;rw[Int.toNat_natCast];refine Tq.bt (dlt hj) (Tq.bt (idx2 hj) (Tq.some (lgn hj) (Tq.bt (idx2 (by rw[List.length_set];exact hj)) (Tq.some (lset hj) ?_))));rw[ws hj (by omega),w64 (x:=z+1) (by omega) (by omega),w64 (by omega) (by omega)];refine(ih (j+1) _ (z+1+1) (by rw[List.length_set,List.length_set];omega) (by rw[List.length_set,List.length_set];exact hl) (by omega) (by omega)).mono ?_;rintro r ⟨l',rfl,h⟩;rw[List.length_set,List.length_set]at h;exact⟨l',by rw[show z+1+1+2*(d:Int)=z+2*((d+1:Nat):Int) by omega],h⟩
theorem markI_gv(l:List Ip)(z:Int)(hl:l.length≤1048576)(h0:0≤z)(hz:z≤562949953421312):Gv n_laws_markInputS s_laws_markInputS (l,z,()) (fun(r:R3)=>∃l',r=((z+2*(l.length:Int),()),l',())∧l'.length=l.length):=by
  refine Gv.of (fun k=>laws_markInputS.F_eq (cl k) k l z) ?_;unfold laws_markInputS.F laws_markInputS.Fm;exact Tq.diag (markI_loop l.length 0 l z rfl hl h0 (by omega))
theorem markT_loop:∀(d j:Nat)(l:List Tm)(z:Int),l.length-j=d→l.length≤1048576→0≤z→z+2*d≤1125899906842624→
    Tq (d+1) (fun k q=>laws_markTermS.L0 (cl k) k q z (j:Int) l) (fun(r:R3)=>∃l',r=((z+2*d,()),l',())∧l'.length=l.length):=by
  intro d
  induction d with
  | zero=>
    intro j l z hd hl h0 hz;refine Tq.succ ?_;show Tq _ (fun k q=>laws_markTermS.step0 (cl k) k ..) _
    unfold laws_markTermS.step0;exact Tq.bf (dnlt (by omega)) (Tq.ret ⟨l,by rw[show z+2*((0:Nat):Int)=z by omega],rfl⟩)
  | succ d ih=>
    intro j l z hd hl h0 hz;have hj:j<l.length:=by omega
    refine Tq.succ ?_;show Tq _ (fun k q=>laws_markTermS.step0 (cl k) k ..) _
    unfold laws_markTermS.step0;rw[Int.toNat_natCast];refine Tq.bt (dlt hj) (Tq.bt (idx2 hj) (Tq.some (lgn hj) (Tq.bt (idx2 (by rw[List.length_set];exact hj)) (Tq.some (lset hj) ?_))));rw[ws hj (by omega),w64 (x:=z+1) (by omega) (by omega),w64 (by omega) (by omega)];refine(ih (j+1) _ (z+1+1) (by rw[List.length_set,List.length_set];omega) (by rw[List.length_set,List.length_set];exact hl) (by omega) (by omega)).mono ?_;rintro r ⟨l',rfl,h⟩;rw[List.length_set,List.length_set]at h;exact⟨l',by rw[show z+1+1+2*(d:Int)=z+2*((d+1:Nat):Int) by omega],h⟩
theorem markT_gv(l:List Tm)(z:Int)(hl:l.length≤1048576)(h0:0≤z)(hz:z≤562949953421312):Gv n_laws_markTermS s_laws_markTermS (l,z,()) (fun(r:R3)=>∃l',r=((z+2*(l.length:Int),()),l',())∧l'.length=l.length):=by
  refine Gv.of (fun k=>laws_markTermS.F_eq (cl k) k l z) ?_;unfold laws_markTermS.F laws_markTermS.Fm;exact Tq.diag (markT_loop l.length 0 l z rfl hl h0 (by omega))
abbrev R4:=(Int×Unit)×(List Sm×Unit)
theorem markS_loop:∀(d j:Nat)(l:List Sm)(z:Int),l.length-j=d→l.length≤1048576→(∀x∈l,x.2.2.1.length≤1048576∧x.2.2.2.1.length≤1048576)→0≤z→z+4194308*d≤562949953421312→
    Tq (d+1) (fun k q=>laws_markStmtS.L0 (cl k) k q z (j:Int) l) (fun(r:R4)=>∃z' l',r=((z',()),l',())∧0≤z'∧z'≤z+4194308*d):=by
  intro d
  induction d with
  | zero=>
    intro j l z hd hl hx h0 hz;refine Tq.succ ?_;show Tq _ (fun k q=>laws_markStmtS.step0 (cl k) k ..) _
    unfold laws_markStmtS.step0;exact Tq.bf (dnlt (by omega)) (Tq.ret ⟨z,l,rfl,h0,by omega⟩)
  | succ d ih=>
    intro j l z hd hl hx h0 hz;have hj:j<l.length:=by omega
    have hq:=hx _ (List.getElem_mem hj);refine Tq.succ ?_;show Tq _ (fun k q=>laws_markStmtS.step0 (cl k) k ..) _
    unfold laws_markStmtS.step0;rw[Int.toNat_natCast];have hj1:∀a:Sm,j<(l.set j a).length:=fun a=>by rw[List.length_set];exact hj
    have hj2:∀a b:Sm,j<((l.set j a).set j b).length:=fun a b=>by rw[List.length_set,List.length_set];exact hj
    have hj3:∀a b c:Sm,j<(((l.set j a).set j b).set j c).length:=fun a b c=>by rw[List.length_set,List.length_set,List.length_set];exact hj
    refine Tq.bt (dlt hj) (Tq.bt (idx2 hj) (Tq.some (lgn hj) (Tq.bt (idx2 (hj1 _)) (Tq.some (lset hj) (Tq.bt (idx2 (hj2 _ _)) (Tq.some (lset (hj1 _)) ?_))))));dsimp only;rw[w64 (x:=z+1) (by omega) (by omega),w64 (x:=z+1+1) (by omega) (by omega)];refine Tq.bind (markT_gv l[j].2.2.1 (z+1+1) hq.1 (by omega) (by omega)).tq ?_;rintro y ⟨l1,rfl,e1⟩;refine Tq.some (lset (hj1 _)) (Tq.bt (idx2 (hj3 _ _ _)) (Tq.some (lset (hj2 _ _)) ?_));dsimp only;refine Tq.bind (markT_gv l[j].2.2.2.1 (z+1+1+2*(l[j].2.2.1.length:Int)) hq.2 (by omega) (by omega)).tq ?_;rintro y ⟨l2,rfl,e2⟩;refine Tq.some (lset (hj2 _ _)) ?_;dsimp only;rw[ws hj (by omega)];refine(ih (j+1) _ _ (by simp only[List.length_set];omega) (by simp only[List.length_set];exact hl) (fun x hx2=>?_) (by omega) (by omega)).mono ?_
    . rcases List.mem_or_eq_of_mem_set hx2 with h|rfl
      . rcases List.mem_or_eq_of_mem_set h with h|rfl
        . rcases List.mem_or_eq_of_mem_set h with h|rfl
          . rcases List.mem_or_eq_of_mem_set h with h|rfl
            . exact hx x h
            . exact hq
          . exact hq
        . exact⟨by show l1.length≤_;omega,hq.2⟩
      . exact⟨by show l1.length≤_;omega,by show l2.length≤_;omega⟩
    . rintro r ⟨z',l',rfl,a1,a2⟩;exact⟨z',l',rfl,a1,by omega⟩
theorem markP_gv(p:Pg)(h:Small p):Gv n_laws_markProg s_laws_markProg (p,1,()) (fun(r:(Int×Unit)×(Pg×Unit))=>∃z p',r=((z,()),p',())∧0≤z∧z≤562949953421312):=by
  obtain⟨h1,h2,h3,h4,h5⟩:=h;refine Gv.of (fun k=>laws_markProg.F_eq (cl k) k p 1) ?_;unfold laws_markProg.F laws_markProg.Fm;refine Tq.bind (markI_gv p.2.1 1 h1 (by omega) (by omega)).tq ?_;rintro y ⟨l1,rfl,_⟩;refine Tq.bind (markI_gv p.2.2.1 _ h2 (by dsimp only;omega) (by dsimp only;omega)).tq ?_;rintro y ⟨l2,rfl,_⟩;refine Tq.bind (mark_gv p.2.2.2.2.1 _ (by dsimp only;omega) (by dsimp only;omega) h3).tq ?_;rintro y ⟨l3,rfl,_,_⟩;have hS:∀z:Int,0≤z→z≤100000000→Gv n_laws_markStmtS s_laws_markStmtS (p.2.2.2.2.2.1,z,()) (fun(r:R4)=>∃z' l',r=((z',()),l',())∧0≤z'∧z'≤z+4194308*p.2.2.2.2.2.1.length):=by
    intro z hz hz2;refine Gv.of (fun k=>laws_markStmtS.F_eq (cl k) k p.2.2.2.2.2.1 z) ?_;unfold laws_markStmtS.F laws_markStmtS.Fm;exact Tq.diag (markS_loop _ 0 p.2.2.2.2.2.1 z rfl h4 h5 hz (by omega))
  refine Tq.bind (hS _ (by dsimp only;omega) (by dsimp only;omega)).tq ?_;rintro y ⟨z,l4,rfl,a1,a2⟩;exact Tq.ret ⟨z,_,rfl,a1,by dsimp only at a2;omega⟩
end Go.Proofs.YtjgfofcgmcnblaaGreat.Pf
namespace Go.Proofs.YtjgfofcgmcnblaaGreat.Pf
open Go Go.Pv IntKind
abbrev YLExactShapesOf_0:Type:=(Int×((List (Int×(Int×Unit)))×((List (Int×(Int×Unit)))×(Int×((List Int)×((List (Int×(Int×((List (Int×(Int×Unit)))×((List (Int×(Int×Unit)))×Unit)))))×Unit))))))
abbrev YLExactShapesOf_1:Type:=(((Int×List (Int×Int×Unit)×List (Int×Int×Unit)×Int×List Int×List (Int×Int×List (Int×Int×Unit)×List (Int×Int×Unit)×Unit)×Unit)×Unit)×Unit)
abbrev YLExactShapesOf_2:Type:=((List (Int×Int×Int×Unit)×Unit)×Unit)
namespace laws_FnExactShapesOf
abbrev R:=((Bool×Unit)×Unit)
def Fm(call:Cl)(k:Nat)(a0:YLExactShapesOf_0):Option R:=(call 38 s_laws_szProg (a0,1048576,())).bind fun(y0:(Int×Unit)×Unit)=>bif decide (y0.1.1<0)then some ((true,()),())else(call 40 s_laws_toProg (a0,())).bind fun(y1:YLExactShapesOf_1)=>(call 34 s_spec_ShapesOf (y1.1.1,())).bind fun(y2:YLExactShapesOf_2)=>(call 40 s_laws_toProg (a0,())).bind fun(y3:YLExactShapesOf_1)=>(call 45 s_impl_ShapesOf (y3.1.1,())).bind fun(y4:YLExactShapesOf_2)=>(call 65 s_laws_eqShapeS (y4.1.1,y2.1.1,())).bind fun(y5:(Bool×Unit)×Unit)=>bif !y5.1.1 then some ((false,()),())else(call 40 s_laws_toProg (a0,())).bind fun(y6:YLExactShapesOf_1)=>(call 42 s_laws_eqProg (y3.1.1,y6.1.1,())).bind fun(y7:(Bool×Unit)×Unit)=>bif !y7.1.1 then some ((false,()),())else(call 55 s_laws_markProg (y3.1.1,1,())).bind fun(y8:((Int×Unit)×(Int×List (Int×Int×Unit)×List (Int×Int×Unit)×Int×List Int×List (Int×Int×List (Int×Int×Unit)×List (Int×Int×Unit)×Unit)×Unit)×Unit))=>bif decide (y8.1.1<0)then some ((false,()),())else(call 65 s_laws_eqShapeS (y4.1.1,y2.1.1,())).bind fun(y9:(Bool×Unit)×Unit)=>bif !y9.1.1 then some ((false,()),())else(call 66 s_laws_markShapeS (y4.1.1,1,())).bind fun(y10:((Int×Unit)×List (Int×Int×Int×Unit)×Unit))=>(call 67 s_laws_heldShapeS (y10.2.1,1,())).bind fun(y11:(Int×Unit)×Unit)=>bif decide (y11.1.1<0)then some ((false,()),())else bif y11.1.1!=y10.1.1 then some ((false,()),())else(call 40 s_laws_toProg (a0,())).bind fun(y12:YLExactShapesOf_1)=>(call 45 s_impl_ShapesOf (y12.1.1,())).bind fun(y13:YLExactShapesOf_2)=>(call 65 s_laws_eqShapeS (y13.1.1,y2.1.1,())).bind fun(y14:(Bool×Unit)×Unit)=>bif !y14.1.1 then some ((false,()),())else(call 67 s_laws_heldShapeS (y10.2.1,1,())).bind fun(y15:(Int×Unit)×Unit)=>bif decide (y15.1.1<0)then some ((false,()),())else bif y15.1.1!=y10.1.1 then some ((false,()),())else some ((true,()),())
def F(call:Cl)(k:Nat)(a0:YLExactShapesOf_0):Option R:=Fm call k a0
theorem F_eq(call:Cl)(k:Nat)(a0:YLExactShapesOf_0):bodyK E call n_laws_FnExactShapesOf k s_laws_FnExactShapesOf (a0,())=F call k a0:=by kernel_rfl
end laws_FnExactShapesOf
end Go.Proofs.YtjgfofcgmcnblaaGreat.Pf
namespace Go.Proofs.YtjgfofcgmcnblaaGreat.Pf
open Go Go.Pv
theorem eqShS_ans {l:List Sh}(hn:l.length≤1048576):Ans n_laws_eqShapeS s_laws_eqShapeS (l,l,()) ((true,()),()):=by
  have e1:∀o:Sh,Ans n_laws_eqShape s_laws_eqShape (o,o,()) ((true,()),()):=fun o=>by
    refine Gv.ans (Gv.of (fun k=>laws_eqShape.F_eq (cl k) k o o) ?_);unfold laws_eqShape.F laws_eqShape.Fm;exact Tq.bf (bne_self_eq_false _) (Tq.bf (bne_self_eq_false _) (Tq.bf (bne_self_eq_false _) (Tq.ret rfl)))
  have key:∀(d j:Nat),l.length-j=d→Tq (d+1) (fun k q=>laws_eqShapeS.L0 (cl k) k l l q (j:Int)) (· =((true,()),())):=by
    intro d
    induction d with
    | zero=>
      intro j hd;refine Tq.succ ?_;show Tq _ (fun k q=>laws_eqShapeS.step0 (cl k) k ..) _
      unfold laws_eqShapeS.step0;exact Tq.bf (dnlt (by omega)) (Tq.ret rfl)
    | succ d ih=>
      intro j hd;have hj:j<l.length:=by omega
      refine Tq.succ ?_;show Tq _ (fun k q=>laws_eqShapeS.step0 (cl k) k ..) _
      unfold laws_eqShapeS.step0;refine Tq.bt (dlt hj) (Tq.bt (dle0 j) (Tq.some (lg hj) (Tq.bt (dle0 j) (Tq.some (lg hj) (Tq.ba (e1 l[j]) (Tq.bf rfl ?_))))));rw[ws hj (by omega)];exact ih (j+1) (by omega)
  refine Gv.ans (Gv.of (fun k=>laws_eqShapeS.F_eq (cl k) k l l) ?_);unfold laws_eqShapeS.F laws_eqShapeS.Fm;exact Tq.bf (bne_self_eq_false _) (Tq.diag (key _ 0 rfl))
def MkH:List Sh→Int→Prop
  |[],_=>True
  |o::l,k=>o.1=k∧o.2.1=k+1∧o.2.2.1=k+2∧MkH l (k+3)
theorem MkH.app:∀{l:List Sh}{k z:Int}{o:Sh},MkH l k→z=k+3*l.length→o.1=z→o.2.1=z+1→o.2.2.1=z+2→MkH (l++[o]) k
  |[],k,z,o,_,h,h2,h3,h4=>⟨by rw[List.length_nil]at h;omega,by rw[List.length_nil]at h;omega,by rw[List.length_nil]at h;omega,trivial⟩
  |b::l,k,z,o,h,h1,h2,h3,h4=>⟨h.1,h.2.1,h.2.2.1,MkH.app (z:=z) h.2.2.2 (by rw[List.length_cons]at h1;omega) h2 h3 h4⟩
abbrev RH:=(Int×Unit)×(List Sh×Unit)
theorem markH_gv {l:List Sh}(hn:l.length≤1024):Gv n_laws_markShapeS s_laws_markShapeS (l,1,()) (fun(r:RH)=>∃z l',r=((z,()),l',())∧0≤z∧Ans n_laws_heldShapeS s_laws_heldShapeS (l',1,()) ((z,()),())):=by
  have key:∀(d j:Nat)(done rest:List Sh),rest.length=d→done.length=j→j+d≤1024→MkH done 1→
      Tq (d+1) (fun k q=>laws_markShapeS.L0 (cl k) k q (1+3*(j:Int)) (j:Int) (done++rest)) (fun(r:RH)=>∃l',r=((1+3*((j+d:Nat):Int),()),l',())∧l'.length=j+d∧MkH l' 1):=by
    intro d
    induction d with
    | zero=>
      intro j done rest hr hj hd hM;obtain rfl:=List.length_eq_zero_iff.1 hr;rw[List.append_nil];refine Tq.succ ?_;show Tq _ (fun k q=>laws_markShapeS.step0 (cl k) k ..) _
      unfold laws_markShapeS.step0;exact Tq.bf (dnlt (by omega)) (Tq.ret ⟨done,rfl,hj,hM⟩)
    | succ d ih=>
      intro j done rest hr hj hd hM;rcases rest with _|⟨a,rest⟩
      . rw[List.length_nil]at hr;omega
      rw[List.length_cons]at hr;have hlen:∀b:Sh,(done++b::rest).length=j+(d+1):=fun b=>by rw[List.length_append,List.length_cons];omega
      have hget:∀b:Sh,lget (done++b::rest) j=some b:=fun b=>by
        unfold lget;rw[List.getElem?_append_right (by omega),show j-done.length=0 by omega];rfl
      have hset:∀b c:Sh,(done++b::rest).set j c=done++c::rest:=fun b c=>by
        rw[List.set_append_right _ _ (by omega),show j-done.length=0 by omega,List.set_cons_zero]
      refine Tq.succ ?_;show Tq _ (fun k q=>laws_markShapeS.step0 (cl k) k ..) _
      unfold laws_markShapeS.step0;rw[Int.toNat_natCast];refine Tq.bt (dlt (by rw[hlen];omega)) (Tq.bt (idx2 (by rw[hlen];omega)) (Tq.some (hget a) ?_))
      try dsimp only
      rw[hset];refine Tq.bt (idx2 (by rw[hlen];omega)) (Tq.some (hget _) ?_)
      try dsimp only
      rw[hset];refine Tq.bt (idx2 (by rw[hlen];omega)) (Tq.some (hget _) ?_)
      try dsimp only
      rw[hset,ws (n:=1025) (by omega) (by omega),w64 (x:=1+3*(j:Int)+1) (by omega) (by omega),w64 (x:=1+3*(j:Int)+1+1) (by omega) (by omega),w64 (by omega) (by omega)];have hM2:=MkH.app (z:=1+3*(j:Int)) (o:=(1+3*(j:Int),1+3*(j:Int)+1,1+3*(j:Int)+1+1,())) hM (by rw[hj]) rfl rfl (by dsimp only;omega);have:=ih (j+1) (done++[(1+3*(j:Int),1+3*(j:Int)+1,1+3*(j:Int)+1+1,())]) rest (by omega) (by simp;omega) (by omega) hM2;rw[List.append_assoc,List.singleton_append,show 1+3*((j+1:Nat):Int)=1+3*(j:Int)+1+1+1 by omega,show j+1+d=j+(d+1) by omega]at this;exact this
  have held:∀(l:List Sh),l.length≤1024→MkH l 1→∀(d j:Nat),l.length-j=d→j≤l.length→MkH (l.drop j) (1+3*(j:Int))→
      Tq (d+1) (fun k q=>laws_heldShapeS.L0 (cl k) k l q (1+3*(j:Int)) (j:Int)) (· =((1+3*(l.length:Int),()),())):=by
    intro l hl hM d
    induction d with
    | zero=>
      intro j hd hj _;obtain rfl:j=l.length:=by omega
      refine Tq.succ ?_;show Tq _ (fun k q=>laws_heldShapeS.step0 (cl k) k ..) _
      unfold laws_heldShapeS.step0;exact Tq.bf (dnlt (by omega)) (Tq.ret rfl)
    | succ d ih=>
      intro j hd hj hM;have hj:j<l.length:=by omega
      rw[List.drop_eq_getElem_cons hj]at hM;obtain⟨m1,m2,m3,m4⟩:=hM;refine Tq.succ ?_;show Tq _ (fun k q=>laws_heldShapeS.step0 (cl k) k ..) _
      unfold laws_heldShapeS.step0;rw[w64 (x:=1+3*(j:Int)+1) (by omega) (by omega),w64 (x:=1+3*(j:Int)+1+1) (by omega) (by omega),w64 (x:=1+3*(j:Int)+1+1+1) (by omega) (by omega),ws hj (by omega)];refine Tq.bt (dlt hj) (Tq.bt (dle0 j) (Tq.some (lg hj) (Tq.bf (bne_eq_false_iff_eq.2 m1) (Tq.bt (dle0 j) (Tq.some (lg hj) (Tq.bf (bne_eq_false_iff_eq.2 m2) (Tq.bt (dle0 j) (Tq.some (lg hj) (Tq.bf (bne_eq_false_iff_eq.2 (by rw[m3];omega)) ?_)))))))));have:=ih (j+1) (by omega) (by omega) (by rw[show 1+3*((j+1:Nat):Int)=1+3*(j:Int)+3 by omega];exact m4);rw[show 1+3*((j+1:Nat):Int)=1+3*(j:Int)+1+1+1 by omega]at this;exact this
  refine Gv.of (fun k=>laws_markShapeS.F_eq (cl k) k l 1) ?_;unfold laws_markShapeS.F laws_markShapeS.Fm;refine(Tq.diag (key l.length 0 [] l rfl rfl (by omega) trivial)).mono ?_;rintro y ⟨l',rfl,h1,h2⟩;refine⟨_,l',rfl,by omega,Gv.ans (Gv.of (fun k=>laws_heldShapeS.F_eq (cl k) k l' 1) ?_)⟩;unfold laws_heldShapeS.F laws_heldShapeS.Fm;have:=held l' (by omega) h2 l'.length 0 rfl (Nat.zero_le _) h2;rw[h1]at this;exact Tq.diag this
theorem shapesOf_law(p:Pg)(hl:Lens p):Ans n_laws_FnExactShapesOf s_laws_FnExactShapesOf (p,()) ((true,()),()):=by
  refine Gv.ans (Gv.of (fun k=>laws_FnExactShapesOf.F_eq (cl k) k p) ?_);unfold laws_FnExactShapesOf.F laws_FnExactShapesOf.Fm;refine Tq.bind (szProg_gv p hl).tq fun(y:(Int×Unit)×Unit) hy=>?_
  refine Tq.bif (fun _=>Tq.ret rfl) fun h0=>?_
  have h0:¬y.1.1<0:=of_decide_eq_false h0;have hs:=hy.resolve_left h0;obtain⟨l,l2,a1,a2⟩:=shapes_agree hs;have tp:=toProg_ans p hs;have ee:=eqShS_ans (l:=l) (by omega);have ep:=eqProg_ans p hs;refine Tq.ba tp (Tq.ba a1 (Tq.ba tp (Tq.ba a2 (Tq.ba ee (Tq.bf rfl (Tq.ba tp (Tq.ba ep (Tq.bf rfl ?_))))))));refine Tq.bind (markP_gv p hs).tq ?_;rintro y ⟨z,p',rfl,z0,z1⟩;refine Tq.bf (decide_eq_false (by dsimp only;omega)) (Tq.ba ee (Tq.bf rfl ?_));refine Tq.bind (markH_gv l2).tq ?_;rintro y ⟨u,v',rfl,u0,hH⟩;refine Tq.ba hH (Tq.bf (decide_eq_false (by dsimp only;omega)) (Tq.bf (bne_self_eq_false _) ?_));exact Tq.ba tp (Tq.ba a2 (Tq.ba ee (Tq.bf rfl (Tq.ba hH (Tq.bf (decide_eq_false (by dsimp only;omega)) (Tq.bf (bne_self_eq_false _) (Tq.ret rfl)))))))
end Go.Proofs.YtjgfofcgmcnblaaGreat.Pf
namespace Go.Proofs.YtjgfofcgmcnblaaGreat.fnExactShapesOf
open Go Go.Pv Pf
theorem pure:∀(a0:Ty.den (.pair (.int .i64) (.pair (.slc (.pair (.int .i64) (.pair (.int .i64) (.unit)))) (.pair (.slc (.pair (.int .i64) (.pair (.int .i64) (.unit)))) (.pair (.int .i64) (.pair (.slc (.int .i64)) (.pair (.slc (.pair (.int .i64) (.pair (.int .i64) (.pair (.slc (.pair (.int .i64) (.pair (.int .i64) (.unit)))) (.pair (.slc (.pair (.int .i64) (.pair (.int .i64) (.unit)))) (.unit)))))) (.unit))))))))(_:Fits (.pair (.int .i64) (.pair (.slc (.pair (.int .i64) (.pair (.int .i64) (.unit)))) (.pair (.slc (.pair (.int .i64) (.pair (.int .i64) (.unit)))) (.pair (.int .i64) (.pair (.slc (.int .i64)) (.pair (.slc (.pair (.int .i64) (.pair (.int .i64) (.pair (.slc (.pair (.int .i64) (.pair (.int .i64) (.unit)))) (.pair (.slc (.pair (.int .i64) (.pair (.int .i64) (.unit)))) (.unit)))))) (.unit))))))) a0),∃r:Sg.R Pf.s_laws_FnExactShapesOf|>.den,(∃k,sem Pf.E (fun _ _=>none) k Pf.n_laws_FnExactShapesOf Pf.s_laws_FnExactShapesOf (a0,())=some r)∧r.1.1=true:=by
  rintro p ⟨_,⟨f1,_⟩,⟨f2,_⟩,_,⟨f3,_⟩,⟨f4,f5⟩,_⟩;exact⟨_,(shapesOf_law p ⟨f1,f2,f3,f4,fun x hx=>⟨(f5 x hx).2.2.1.1,(f5 x hx).2.2.2.1.1⟩⟩).sem,rfl⟩
end Go.Proofs.YtjgfofcgmcnblaaGreat.fnExactShapesOf
