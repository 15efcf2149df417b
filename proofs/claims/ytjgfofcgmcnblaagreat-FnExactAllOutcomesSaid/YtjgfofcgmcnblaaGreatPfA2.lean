/- Values of expressions: both sides answer the same. Its condition: the program is right, the expression may stand in it, the environment fits. -/
import Derived.Test.YtjgfofcgmcnblaaGreatPfA1
import Derived.Test.YtjgfofcgmcnblaaGreatPfDp
set_option maxHeartbeats 4000000
set_option linter.all false
namespace Go.Proofs.YtjgfofcgmcnblaaGreat.Pf
open Go Go.Pv
abbrev ET:=List Int×(List (List Int)×Unit)
structure EnvR (p:Pg) (v:ET):Prop where
  lv:(v.1.length:Int)=Vrs p
  lc:v.2.1.length=p.2.2.2.2.1.length
  vs:∀x∈v.1,Vl p.1 x
  cs:∀(i:Nat)(h:i<v.2.1.length)(h':i<p.2.2.2.2.1.length),((v.2.1[i].length:Nat):Int)=p.2.2.2.2.1[i]∧∀x∈v.2.1[i],Vl p.1 x
def getl(l:List (List Int))(n:Int):List Int:=if h:n.toNat<l.length then l[n.toNat]else[]
theorem getl_lt {l:List (List Int)}{n:Int}(h:n.toNat<l.length):getl l n=l[n.toNat]:=dif_pos h
/-! ### What a term makes of what it takes,and its trap-/
def tm0(v:ET)(t:Tm):Int:=if t.1=0 then t.2.1 else geti v.1 t.2.1
def tm1(p:Pg)(v:ET)(t:Tm)(a:Int):Int×Int:=if t.1=2 then(if a<((getl v.2.1 t.2.1).length:Int)then(geti (getl v.2.1 t.2.1) a,0)else(0,2))else(opV p.1 t.1 a 0,0)
def tm2(p:Pg)(t:Tm)(a b:Int):Int×Int:=if b=0∧(t.1=8∨t.1=9)then(0,1)else(opV p.1 t.1 a b,0)
def one(tr bad:Int):Int:=if tr=0 then bad else tr
theorem one_neg {tr b:Int}(h:¬tr=0):one tr b=tr:=if_neg h
theorem by2:ti2.bytes=8:=rfl
theorem lget0 {α:Type}(a:α)(l:List α):lget (a::l) (Int.toNat 0)=some a:=rfl
theorem lget1 {α:Type}(a b:α)(l:List α):lget (a::b::l) (Int.toNat 1)=some b:=rfl
theorem lgeta {α:Type}(pre:List α)(a:α)(l:List α):lget (pre++a::l) pre.length=some a:=by
  unfold lget;rw[List.getElem?_append_right (Nat.le_refl _),Nat.sub_self];rfl
theorem lgetb {α:Type}(pre:List α)(a b:α)(l:List α):lget (pre++a::b::l) (pre.length+1)=some b:=by
  unfold lget;rw[List.getElem?_append_right (by omega),show pre.length+1-pre.length=1 by omega];rfl
theorem wr0 {n:Nat}(h:n≤1000):IntKind.i64.wrap ((n:Int)-0)=(n:Int):=by rw[w64 (by omega) (by omega)];omega
theorem wr1 {n:Nat}(h:n≤1000):IntKind.i64.wrap (((n+1:Nat):Int)-1)=(n:Int):=by rw[w64 (by omega) (by omega)];omega
theorem wr2 {n:Nat}(h:n≤1000):IntKind.i64.wrap (((n+2:Nat):Int)-2)=(n:Int):=by rw[w64 (by omega) (by omega)];omega
theorem len1 {α:Type}(pre:List α)(a:α):(pre++[a]).length=pre.length+1:=by simp
theorem len2 {α:Type}(pre:List α)(a b:α):(pre++[a,b]).length=pre.length+2:=by simp
theorem tkA {α:Type}(pre:List α)(a:α):List.take (pre.length+1-pre.length) (List.drop pre.length (pre++[a]))=[a]:=by
  rw[List.drop_left,show pre.length+1-pre.length=1 by omega];rfl
theorem tkB {α:Type}(pre:List α)(a b:α):List.take (pre.length+2-pre.length) (List.drop pre.length (pre++[a,b]))=[a,b]:=by
  rw[List.drop_left,show pre.length+2-pre.length=2 by omega];rfl
theorem takes_op {o:Int}:(o=0∨o=1→takes o=0)∧(2≤o∧o≤4→takes o=1)∧(5≤o∧o≤16→takes o=2):=by
  refine⟨fun h=>?_,fun h=>?_,fun h=>?_⟩<;>unfold takes
  . rw[if_pos h]
  . rw[if_neg (by omega),if_pos (by omega)]
  . rw[if_neg (by omega),if_neg (by omega),if_pos (by omega)]
section
variable {p:Pg}(hp:Hd p){v:ET}(hv:EnvR p v){e:List Tm}(he:Stand p e)
include hp hv he
theorem tm1_vl {j:Nat}(hj:j<e.length){a:Int}(h:2≤e[j].1∧e[j].1≤4)(ha:Vl p.1 a):Vl p.1 (tm1 p v e[j] a).1:=by
  have h1:=he.2.1.1.at hj;have h3:=he.2.1.2 _ (List.getElem_mem hj);have hs:=sz_bd hp.w;have hl:=hv.lc;unfold TmOk at h1;unfold NmOk at h3;unfold tm1;split
  . rename_i h2;split
    . rename_i h4;have h5:e[j].2.1.toNat<v.2.1.length:=by have:=h3.2.2 h2;omega
      rw[getl_lt h5]at h4⊢;rw[geti_lt (by have:=ha.1;omega)];exact(hv.cs _ h5 (by omega)).2 _ (List.getElem_mem _)
    . exact⟨Int.le_refl _,by show(0:Int)<sz p.1;omega⟩
  . exact opV_vl hp.w ha ⟨by omega,by omega⟩
omit hv he in
theorem tm2_vl {t:Tm}{a b:Int}(ha:Vl p.1 a)(hb:Vl p.1 b):Vl p.1 (tm2 p t a b).1:=by
  have hs:=sz_bd hp.w;unfold tm2;split
  . exact⟨Int.le_refl _,by show(0:Int)<sz p.1;omega⟩
  . exact opV_vl hp.w ha hb
theorem tm0_vl {j:Nat}(hj:j<e.length)(h:e[j].1=0∨e[j].1=1):Vl p.1 (tm0 v e[j]):=by
  have h1:=he.2.1.1.at hj;have h3:=he.2.1.2 _ (List.getElem_mem hj);have hl:=hv.lv;unfold TmOk at h1;unfold NmOk at h3;unfold tm0;split
  . rename_i h2;exact⟨by omega,h3.1 h2⟩
  . have:=h3.2.1 (by omega);rw[geti_lt (by omega)];exact hv.vs _ (List.getElem_mem _)
/-! #### the reference,a term at a time-/
theorem s0 {j:Nat}(hj:j<e.length)(h:e[j].1=0∨e[j].1=1){st:List Int}(hst:st.length≤100){tr:Int}{P:(Int×(Int×Unit))×Unit→Prop}{d:Nat}
    (H:Tq d (fun k q=>spec_l5Value.L0 (cl k) k v e ((sz p.1,()),()) q tr ((j+1:Nat):Int) (st++[tm0 v e[j]])) P):Tq (d+1) (fun k q=>spec_l5Value.L0 (cl k) k v e ((sz p.1,()),()) q tr (j:Int) st) P:=by
  have h1:=he.2.1.1.at hj;have h3:=he.2.1.2 _ (List.getElem_mem hj);have hl:=hv.lv;have h40:=he.1;unfold TmOk at h1;unfold NmOk at h3;refine Tq.succ ?_;show Tq _ (fun k q=>spec_l5Value.step0 (cl k) k ..) _
  unfold spec_l5Value.step0;refine Tq.bt (dlt hj) (Tq.bt (dle0 _) (Tq.some (lg hj) (Tq.ba (sTakes_ans _) ?_)));dsimp only;rw[takes_op.1 h];unfold tm0 at H;rcases h with c|c
  . rw[if_pos c]at H;simp only[c,Int.reduceBEq,cond_true,cond_false,wr0 (show st.length≤1000 by omega),zt,by2,Nat.sub_self,Nat.sub_zero,List.take_length,List.drop_length,List.take_zero,List.length_nil]
    repeat'((first|(refine Tq.bt (apb (by simp only[List.length_cons,List.length_nil];omega)) ?_)|refine .t ?_|refine .u ?_|refine .some lg0 ?_|refine .some lg ?_|refine .some lgI ?_|(refine .bif (fun zz=>?_) (fun zz=>?_)<;>try simp(disch:=omega)only[zs,w64,zt]at zz))<;>try dsimp only)
    . obtain rfl:tr=0:=by assumption
      rw[ws hj (by omega)];exact H
    . rw[ws hj (by omega)];exact H
  . rw[if_neg (by omega)]at H;have:=h3.2.1 c;simp only[c,Int.reduceBEq,cond_true,cond_false,wr0 (show st.length≤1000 by omega),zt,by2,Nat.sub_self,Nat.sub_zero,List.take_length,List.drop_length,List.take_zero,List.length_nil]
    repeat'((first|(refine Tq.bt (apb (by simp only[List.length_cons,List.length_nil];omega)) ?_)|refine .t ?_|refine .u ?_|refine .some lg0 ?_|refine .some lg ?_|refine .some lgI ?_|(refine .bif (fun zz=>?_) (fun zz=>?_)<;>try simp(disch:=omega)only[zs,w64,zt]at zz))<;>try dsimp only)
    . obtain rfl:tr=0:=by assumption
      rw[geti_lt (by omega)]at H;rw[ws hj (by omega)];exact H
    . rw[geti_lt (by omega)]at H;rw[ws hj (by omega)];exact H
theorem s1 {j:Nat}(hj:j<e.length)(h:2≤e[j].1∧e[j].1≤4){st:List Int}(hst:st.length≤100){a:Int}(ha:Vl p.1 a){tr:Int}{P:(Int×(Int×Unit))×Unit→Prop}{d:Nat}
    (H:Tq d (fun k q=>spec_l5Value.L0 (cl k) k v e ((sz p.1,()),()) q (one tr (tm1 p v e[j] a).2) ((j+1:Nat):Int) (st++[(tm1 p v e[j] a).1])) P):Tq (d+1) (fun k q=>spec_l5Value.L0 (cl k) k v e ((sz p.1,()),()) q tr (j:Int) (st++[a])) P:=by
  have h1:=he.2.1.1.at hj;have h3:=he.2.1.2 _ (List.getElem_mem hj);have hl:=hv.lc;have hs:=sz_bd hp.w;have h40:=he.1;unfold TmOk at h1;unfold NmOk at h3;have ha1:=ha.1;refine Tq.succ ?_;show Tq _ (fun k q=>spec_l5Value.step0 (cl k) k ..) _
  unfold spec_l5Value.step0;refine Tq.bt (dlt hj) (Tq.bt (dle0 _) (Tq.some (lg hj) (Tq.ba (sTakes_ans _) ?_)));dsimp only;rw[takes_op.2.1 h];have n1:=@wr1 st.length (by omega);unfold tm1 at H;rcases(by omega:e[j].1=2∨e[j].1=3∨e[j].1=4)with c|c|c
  . rw[if_pos c]at H;have h5:e[j].2.1.toNat<v.2.1.length:=by have:=h3.2.2 c;omega
    rw[getl_lt h5]at H;simp only[c,Int.reduceBEq,cond_true,cond_false,len1,n1,zt,by2,tkA,List.nil_append,lget0,Option.bind_some,Nat.sub_zero,List.take_left]
    repeat'((first|(refine Tq.bt (apb (by simp only[List.length_cons,List.length_nil];omega)) ?_)|(refine Tq.bt (show(decide (0≤0)&&decide (Int.toNat 0<[a].length))=true from rfl) ?_)|refine .t ?_|refine .u ?_|refine .some lg0 ?_|refine .some lg ?_|refine .some lgI ?_|(refine .bif (fun zz=>?_) (fun zz=>?_)<;>try simp(disch:=omega)only[zs,w64,zt]at zz))<;>try dsimp only)
    all_goals(rw[ws hj (by omega)])
    all_goals first
      |(rw[if_pos (by assumption),geti_lt (by omega)]at H)
      |(rw[if_neg (by omega)]at H)
    all_goals first
      |(subst zz;exact H)
      |(rw[one_neg zz]at H;exact H)
  all_goals
    rw[if_neg (by omega)]at H;have ho:=opS_ans hp.w ha ⟨Int.le_refl 0,by omega⟩ (o:=e[j].1) (by omega);rw[if_neg (by omega)]at ho;simp only[c,Int.reduceBEq,cond_true,cond_false,len1,n1,zt,by2,tkA,List.nil_append,lget0,Option.bind_some,Nat.sub_zero,List.take_left]
    repeat'((first|(refine Tq.bt (apb (by simp only[List.length_cons,List.length_nil];omega)) ?_)|(refine Tq.bt (show(decide (0≤0)&&decide (Int.toNat 0<[a].length))=true from rfl) ?_)|refine .ba ho ?_|refine .t ?_|refine .u ?_|refine .some lg0 ?_|refine .some lg ?_|refine .some lgI ?_|(refine .bif (fun zz=>?_) (fun zz=>?_)<;>try simp(disch:=omega)only[zs,w64,zt]at zz))<;>try dsimp only)
    all_goals(rw[ws hj (by omega)])
    all_goals first
      |(subst zz;exact H)
      |(rw[one_neg zz]at H;exact H)
theorem s2 {j:Nat}(hj:j<e.length)(h:5≤e[j].1∧e[j].1≤16){st:List Int}(hst:st.length≤100){a b:Int}(ha:Vl p.1 a)(hb:Vl p.1 b){tr:Int}{P:(Int×(Int×Unit))×Unit→Prop}{d:Nat}
    (H:Tq d (fun k q=>spec_l5Value.L0 (cl k) k v e ((sz p.1,()),()) q (one tr (tm2 p e[j] a b).2) ((j+1:Nat):Int) (st++[(tm2 p e[j] a b).1])) P):Tq (d+1) (fun k q=>spec_l5Value.L0 (cl k) k v e ((sz p.1,()),()) q tr (j:Int) (st++[a,b])) P:=by
  have h1:=he.2.1.1.at hj;have h40:=he.1;unfold TmOk at h1;refine Tq.succ ?_;show Tq _ (fun k q=>spec_l5Value.step0 (cl k) k ..) _
  unfold spec_l5Value.step0;refine Tq.bt (dlt hj) (Tq.bt (dle0 _) (Tq.some (lg hj) (Tq.ba (sTakes_ans _) ?_)));dsimp only;rw[takes_op.2.2 h];have n1:=@wr2 st.length (by omega);unfold tm2 at H;have ho:=opS_ans hp.w ha hb (o:=e[j].1) (by omega);simp only[len2,n1,zt,by2,tkB,List.nil_append,lget0,lget1,Option.bind_some,Nat.sub_zero,List.take_left];by_cases c8:e[j].1=8∨e[j].1=9
  . rcases c8 with c|c
    all_goals
      by_cases c0:b=0
      . rw[if_pos ⟨by omega,c0⟩]at ho;rw[if_pos ⟨c0,by omega⟩]at H
        repeat'((first|(refine Tq.bt (apb (by simp only[List.length_cons,List.length_nil];omega)) ?_)|(refine Tq.bt (show(decide (0≤0)&&decide (Int.toNat 0<[a,b].length))=true from rfl) ?_)|(refine Tq.bt (show(decide (0≤1)&&decide (Int.toNat 1<[a,b].length))=true from rfl) ?_)|refine .ba ho ?_|refine .t ?_|refine .u ?_|refine .some lg0 ?_|refine .some lg ?_|refine .some lgI ?_|(refine .bif (fun zz=>?_) (fun zz=>?_)<;>try simp(disch:=omega)only[zs,w64,zt]at zz))<;>try dsimp only)
        all_goals(rw[ws hj (by omega)])
        all_goals first
          |(subst zz;exact H)
          |(rw[one_neg zz]at H;exact H)
      . rw[if_neg (fun e=>c0 e.2)]at ho;rw[if_neg (fun e=>c0 e.1)]at H
        repeat'((first|(refine Tq.bt (apb (by simp only[List.length_cons,List.length_nil];omega)) ?_)|(refine Tq.bt (show(decide (0≤0)&&decide (Int.toNat 0<[a,b].length))=true from rfl) ?_)|(refine Tq.bt (show(decide (0≤1)&&decide (Int.toNat 1<[a,b].length))=true from rfl) ?_)|refine .ba ho ?_|refine .t ?_|refine .u ?_|refine .some lg0 ?_|refine .some lg ?_|refine .some lgI ?_|(refine .bif (fun zz=>?_) (fun zz=>?_)<;>try simp(disch:=omega)only[zs,w64,zt]at zz))<;>try dsimp only)
        all_goals(rw[ws hj (by omega)])
        all_goals first
          |(subst zz;exact H)
          |(rw[one_neg zz]at H;exact H)
  . rw[if_neg (fun e=>c8 e.1)]at ho;rw[if_neg (fun e=>c8 e.2)]at H
    repeat'((first|(refine Tq.bt (apb (by simp only[List.length_cons,List.length_nil];omega)) ?_)|(refine Tq.bt (show(decide (0≤0)&&decide (Int.toNat 0<[a,b].length))=true from rfl) ?_)|(refine Tq.bt (show(decide (0≤1)&&decide (Int.toNat 1<[a,b].length))=true from rfl) ?_)|refine .ba ho ?_|refine .t ?_|refine .u ?_|refine .some lg0 ?_|refine .some lg ?_|refine .some lgI ?_|(refine .bif (fun zz=>?_) (fun zz=>?_)<;>try simp(disch:=omega)only[zs,w64,zt]at zz))<;>try dsimp only)
    all_goals(rw[ws hj (by omega)])
    all_goals first
      |(subst zz;exact H)
      |(rw[one_neg zz]at H;exact H)
/-! #### the program,a term at a time-/
theorem i0 {j:Nat}(hj:j<e.length)(h:e[j].1=0∨e[j].1=1){st:List Int}(hst:st.length≤100){P:(Int×(Int×Unit))×Unit→Prop}{d:Nat}
    (H:Tq d (fun k q=>impl_reckon.L0 (cl k) k p v e false q ((j+1:Nat):Int) (st++[tm0 v e[j]])) P):Tq (d+1) (fun k q=>impl_reckon.L0 (cl k) k p v e false q (j:Int) st) P:=by
  have h1:=he.2.1.1.at hj;have h3:=he.2.1.2 _ (List.getElem_mem hj);have hl:=hv.lv;have h40:=he.1;unfold TmOk at h1;unfold NmOk at h3;refine Tq.succ ?_;show Tq _ (fun k q=>impl_reckon.step0 (cl k) k ..) _
  unfold impl_reckon.step0;refine Tq.bt (dlt hj) (Tq.bt (dle0 _) (Tq.some (lg hj) (Tq.ba (iTakes_ans _) ?_)));dsimp only;rw[takes_op.1 h];unfold tm0 at H;rcases h with c|c
  . rw[if_pos c]at H;simp only[c,Int.reduceBEq,cond_true,cond_false,wr0 (show st.length≤1000 by omega),zt,by2,Nat.sub_zero,List.take_length]
    repeat'((first|(refine Tq.bt (apb (by simp only[List.length_cons,List.length_nil];omega)) ?_)|refine .t ?_|refine .u ?_|refine .some lg0 ?_|refine .some lg ?_|refine .some lgI ?_|(refine .bif (fun zz=>?_) (fun zz=>?_)<;>try simp(disch:=omega)only[zs,w64,zt]at zz))<;>try dsimp only)
    rw[ws hj (by omega)];exact H
  . rw[if_neg (by omega)]at H;have:=h3.2.1 c;simp only[c,Int.reduceBEq,cond_true,cond_false,wr0 (show st.length≤1000 by omega),zt,by2,Nat.sub_zero,List.take_length]
    repeat'((first|(refine Tq.bt (apb (by simp only[List.length_cons,List.length_nil];omega)) ?_)|refine .t ?_|refine .u ?_|refine .some lg0 ?_|refine .some lg ?_|refine .some lgI ?_|(refine .bif (fun zz=>?_) (fun zz=>?_)<;>try simp(disch:=omega)only[zs,w64,zt]at zz))<;>try dsimp only)
    rw[geti_lt (by omega)]at H;rw[ws hj (by omega)];exact H
theorem i1 {j:Nat}(hj:j<e.length)(h:2≤e[j].1∧e[j].1≤4){st:List Int}(hst:st.length≤100){a:Int}(ha:Vl p.1 a){P:(Int×(Int×Unit))×Unit→Prop}{d:Nat}
    (H0:(tm1 p v e[j] a).2=0→Tq d (fun k q=>impl_reckon.L0 (cl k) k p v e false q ((j+1:Nat):Int) (st++[(tm1 p v e[j] a).1])) P) (H1:(tm1 p v e[j] a).2≠0→P ((0,(tm1 p v e[j] a).2,()),())):
    Tq (d+1) (fun k q=>impl_reckon.L0 (cl k) k p v e false q (j:Int) (st++[a])) P:=by
  have h1:=he.2.1.1.at hj;have h3:=he.2.1.2 _ (List.getElem_mem hj);have hl:=hv.lc;have hs:=sz_bd hp.w;have h40:=he.1;unfold TmOk at h1;unfold NmOk at h3;have ha1:=ha.1;refine Tq.succ ?_;show Tq _ (fun k q=>impl_reckon.step0 (cl k) k ..) _
  unfold impl_reckon.step0;refine Tq.bt (dlt hj) (Tq.bt (dle0 _) (Tq.some (lg hj) (Tq.ba (iTakes_ans _) ?_)));dsimp only;rw[takes_op.2.1 h];have n1:=@wr1 st.length (by omega);unfold tm1 at H0 H1;rcases(by omega:e[j].1=2∨e[j].1=3∨e[j].1=4)with c|c|c
  . rw[if_pos c]at H0 H1;have h5:e[j].2.1.toNat<v.2.1.length:=by have:=h3.2.2 c;omega
    have h6:=(hv.cs _ h5 (by omega)).1;rw[getl_lt h5]at H0 H1;simp only[c,Int.reduceBEq,cond_true,cond_false,len1,n1,zt,by2,Int.toNat_zero,Nat.add_zero,lgeta,Option.bind_some,Nat.sub_zero,List.take_left]
    repeat'((first|(refine Tq.bt (apb (by simp only[List.length_cons,List.length_nil];omega)) ?_)|refine .t ?_|refine .u ?_|refine .some lg0 ?_|refine .some lg ?_|refine .some lgI ?_|(refine .bif (fun zz=>?_) (fun zz=>?_)<;>try simp(disch:=omega)only[zs,w64,zt]at zz))<;>try dsimp only)
    . rw[if_pos (by omega),geti_lt (by omega)]at H0;rw[ws hj (by omega)];exact H0 rfl
    . rw[if_neg (by omega)]at H1;exact Tq.ret (H1 (by decide))
  all_goals
    rw[if_neg (by omega)]at H0;have ho:=turn_ans hp.w ha (o:=e[j].1) (by omega);rw[c]at ho H0;simp only[c,Int.reduceBEq,cond_true,cond_false,len1,n1,zt,by2,Int.toNat_zero,Nat.add_zero,lgeta,Option.bind_some,Nat.sub_zero,List.take_left]
    repeat'((first|(refine Tq.bt (apb (by simp only[List.length_cons,List.length_nil];omega)) ?_)|refine .ba ho ?_|refine .t ?_|refine .u ?_|refine .some lg0 ?_|refine .some lg ?_|refine .some lgI ?_|(refine .bif (fun zz=>?_) (fun zz=>?_)<;>try simp(disch:=omega)only[zs,w64,zt]at zz))<;>try dsimp only)
    rw[ws hj (by omega)];exact H0 rfl
theorem i2 {j:Nat}(hj:j<e.length)(h:5≤e[j].1∧e[j].1≤16){st:List Int}(hst:st.length≤100){a b:Int}(ha:Vl p.1 a)(hb:Vl p.1 b){P:(Int×(Int×Unit))×Unit→Prop}{d:Nat}
    (H0:(tm2 p e[j] a b).2=0→Tq d (fun k q=>impl_reckon.L0 (cl k) k p v e false q ((j+1:Nat):Int) (st++[(tm2 p e[j] a b).1])) P) (H1:(tm2 p e[j] a b).2≠0→P ((0,(tm2 p e[j] a b).2,()),())):
    Tq (d+1) (fun k q=>impl_reckon.L0 (cl k) k p v e false q (j:Int) (st++[a,b])) P:=by
  have h1:=he.2.1.1.at hj;have h40:=he.1;unfold TmOk at h1;refine Tq.succ ?_;show Tq _ (fun k q=>impl_reckon.step0 (cl k) k ..) _
  unfold impl_reckon.step0;refine Tq.bt (dlt hj) (Tq.bt (dle0 _) (Tq.some (lg hj) (Tq.ba (iTakes_ans _) ?_)));dsimp only;rw[takes_op.2.2 h];have n1:=@wr2 st.length (by omega);unfold tm2 at H0 H1;simp only[len2,n1,zt,by2,Int.toNat_zero,Int.toNat_one,Nat.add_zero,lgeta,lgetb,Option.bind_some,Nat.sub_zero,List.take_left];by_cases c8:b=0∧(e[j].1=8∨e[j].1=9)
  . rw[if_pos c8]at H1;obtain⟨c0,c8⟩:=c8;rcases c8 with c|c
    all_goals
      repeat'((first|(refine Tq.bt (apb (by simp only[List.length_cons,List.length_nil];omega)) ?_)|refine .t ?_|refine .u ?_|refine .some lg0 ?_|refine .some lg ?_|refine .some lgI ?_|(refine .bif (fun zz=>?_) (fun zz=>?_)<;>try simp(disch:=omega)only[zs,w64,zt]at zz))<;>try dsimp only)
      exact Tq.ret (H1 (by decide))
  . rw[if_neg c8]at H0;have ho:=join_ans hp.w ha hb h (fun e h0=>c8 ⟨h0,e⟩)
    repeat'((first|(refine Tq.bt (apb (by simp only[List.length_cons,List.length_nil];omega)) ?_)|refine .ba ho ?_|refine .t ?_|refine .u ?_|refine .some lg0 ?_|refine .some lg ?_|refine .some lgI ?_|(refine .bif (fun zz=>?_) (fun zz=>?_)<;>try simp(disch:=omega)only[zs,w64,zt]at zz))<;>try dsimp only)
    all_goals(rw[ws hj (by omega)];exact H0 rfl)
end
end Go.Proofs.YtjgfofcgmcnblaaGreat.Pf
