/- The code of a program: both sides answer the same. Its condition: no list is longer than a law looks at. -/
import Derived.Test.YtjgfofcgmcnblaaGreatPfK
set_option maxHeartbeats 2000000
set_option linter.all false
namespace Go.Proofs.YtjgfofcgmcnblaaGreat.Pf
open Go Go.Pv
theorem l1Max_ans(a b:Int):Ans n_spec_l1Max s_spec_l1Max (a,b,()) ((max a b,()),()):=by
  refine Gv.ans (Gv.of (fun k=>spec_l1Max.F_eq (cl k) k a b) ?_);unfold spec_l1Max.F spec_l1Max.Fm
  repeat'((first|refine .t ?_|refine .u ?_|refine .some lg0 ?_|refine .some lg ?_|refine .some lgI ?_|(refine .bif (fun zz=>?_) (fun zz=>?_)<;>try simp(disch:=omega)only[zs,w64,zt]at zz))<;>try dsimp only)
  all_goals exact Tq.ret (ret1 (by omega))
/-! ### The reference's count-/
def SstL(b:List Sm)(i j:Nat)(x:Int):Prop:=∀d,j-i<d→∀(n:Int),0≤n→n+x≤4398046511104000→
  Tq d (fun k q=>spec_l3Steps.L0 (cl k) k b (j:Int) q n (i:Int)) (· =((n+x,()),()))
def Sst(b:List Sm)(i j:Nat)(x:Int):Prop:=Ans n_spec_l3Steps s_spec_l3Steps (b,(i:Int),(j:Int),()) ((x,()),())
theorem SstL.sst {b:List Sm}{i j:Nat}{x:Int}(h:SstL b i j x)(hx:x≤4398046511104):Sst b i j x:=by
  refine Gv.ans (Gv.of (fun k=>spec_l3Steps.F_eq (cl k) k b i j) ?_);unfold spec_l3Steps.F spec_l3Steps.Fm;rw[show x=0+x by omega];exact Tq.diag (h (j-i+1) (by omega) 0 (by omega) (by omega))
section
variable {b:List Sm}(hb:b.length≤40)
include hb
theorem sst_nil {i:Nat}:SstL b i i 0:=by
  intro d hd n h0 h1;obtain⟨d,rfl⟩:∃d',d=d'+1:=⟨d-1,by omega⟩
  refine Tq.succ ?_;show Tq _ (fun k q=>spec_l3Steps.step0 (cl k) k ..) _
  unfold spec_l3Steps.step0
  repeat'((first|refine .t ?_|refine .u ?_|refine .some lg0 ?_|refine .some lg ?_|refine .some lgI ?_|(refine .bif (fun zz=>?_) (fun zz=>?_)<;>try simp(disch:=omega)only[zs,w64,zt]at zz))<;>try dsimp only)
  exact Tq.ret (ret1 (by omega))
theorem sst_leaf {i j:Nat}{x:Int}(hi:i<b.length)(hj:i<j)(hx:0≤x∧x≤4398046511104)(h:opAt b i≠2∧opAt b i≠5∧opAt b i≠8)(hE:End b i (-1) (-1))(hr:SstL b (i+1) j x):SstL b i j (1+x):=by
  intro d hd n h0 h1;obtain⟨d,rfl⟩:∃d',d=d'+1:=⟨d-1,by omega⟩
  rw[opAt_lt hi]at h;refine Tq.succ ?_;show Tq _ (fun k q=>spec_l3Steps.step0 (cl k) k ..) _
  unfold spec_l3Steps.step0
  repeat'((first|refine .ba hE ?_|refine .t ?_|refine .u ?_|refine .some lg0 ?_|refine .some lg ?_|refine .some lgI ?_|(refine .bif (fun zz=>?_) (fun zz=>?_)<;>try simp(disch:=omega)only[zs,w64,zt]at zz))<;>try dsimp only)
  rw[ws hi (by omega)];simp(disch:=omega)only[w64];refine(hr d (by omega) _ (by omega) (by omega)).mono ?_;rintro _ rfl;exact ret1 (by omega)
theorem sst_if1 {i e j:Nat}{x1 x:Int}(h:opAt b i=2)(he:i<e∧e<b.length∧e<j)(hx:0≤x∧x≤4398046511104∧0≤x1∧x1≤4398046511104)(hE:End b i (-1) e)(h1:Sst b (i+1) e x1)(hr:SstL b (e+1) j x):SstL b i j (1+x1+x):=by
  intro d hd n h0 h3;obtain⟨d,rfl⟩:∃d',d=d'+1:=⟨d-1,by omega⟩
  have hi:=opAt_in h (by omega);rw[opAt_lt hi]at h;refine Tq.succ ?_;show Tq _ (fun k q=>spec_l3Steps.step0 (cl k) k ..) _
  unfold spec_l3Steps.step0;rw[ws hi (by omega)]
  repeat'((first|refine .ba hE ?_|refine .ba h1 ?_|refine .t ?_|refine .u ?_|refine .some lg0 ?_|refine .some lg ?_|refine .some lgI ?_|(refine .bif (fun zz=>?_) (fun zz=>?_)<;>try simp(disch:=omega)only[zs,w64,zt]at zz))<;>try dsimp only)
  rw[ws he.2.1 (by omega)];simp(disch:=omega)only[w64];refine(hr d (by omega) _ (by omega) (by omega)).mono ?_;rintro _ rfl;exact ret1 (by omega)
theorem sst_if2 {i m e j:Nat}{x1 x2 x:Int}(h:opAt b i=2)(he:i<m∧m<e∧e<b.length∧e<j)(hx:0≤x∧x≤4398046511104∧0≤x1∧x1≤4398046511104∧0≤x2∧x2≤4398046511104)(hE:End b i m e)(h1:Sst b (i+1) m x1)(h2:Sst b (m+1) e x2)(hr:SstL b (e+1) j x):SstL b i j (1+max x1 x2+x):=by
  intro d hd n h0 h3;obtain⟨d,rfl⟩:∃d',d=d'+1:=⟨d-1,by omega⟩
  have hi:=opAt_in h (by omega);rw[opAt_lt hi]at h;have hm:m<b.length:=by omega
  have h2:Ans n_spec_l3Steps s_spec_l3Steps (b,IntKind.i64.wrap ((m:Int)+1),(e:Int),()) ((x2,()),()):=by rw[ws hm (by omega)];exact h2
  refine Tq.succ ?_;show Tq _ (fun k q=>spec_l3Steps.step0 (cl k) k ..) _
  unfold spec_l3Steps.step0;rw[ws hi (by omega)]
  repeat'((first|refine .ba hE ?_|refine .ba h1 ?_|refine .ba h2 ?_|refine .ba (l1Max_ans _ _) ?_|refine .t ?_|refine .u ?_|refine .some lg0 ?_|refine .some lg ?_|refine .some lgI ?_|(refine .bif (fun zz=>?_) (fun zz=>?_)<;>try simp(disch:=omega)only[zs,w64,zt]at zz))<;>try dsimp only)
  rw[ws he.2.2.1 (by omega)];simp(disch:=omega)only[w64];refine(hr d (by omega) _ (by omega) (by omega)).mono ?_;rintro _ rfl;exact ret1 (by omega)
theorem sst_loop {i e j:Nat}{x1 x:Int}(h:opAt b i=5)(he:i<e∧e<b.length∧e<j)(hN:0≤NAt b i∧NAt b i≤4)(hx:0≤x∧x≤4398046511104∧0≤x1∧x1≤4398046511104)(hE:End b i (-1) e)(h1:Sst b (i+1) e x1)(hr:SstL b (e+1) j x):SstL b i j (1+NAt b i*(1+x1)+x):=by
  intro d hd n h0 h3;obtain⟨d,rfl⟩:∃d',d=d'+1:=⟨d-1,by omega⟩
  have hi:=opAt_in h (by omega);have hN2:NAt b i=0∨NAt b i=1∨NAt b i=2∨NAt b i=3∨NAt b i=4:=by omega
  rw[NAt_lt hi]at*;rw[opAt_lt hi]at h;refine Tq.succ ?_;show Tq _ (fun k q=>spec_l3Steps.step0 (cl k) k ..) _
  unfold spec_l3Steps.step0;rw[ws hi (by omega)]
  repeat'((first|refine .ba hE ?_|refine .ba h1 ?_|refine .t ?_|refine .u ?_|refine .some lg0 ?_|refine .some lg ?_|refine .some lgI ?_|(refine .bif (fun zz=>?_) (fun zz=>?_)<;>try simp(disch:=omega)only[zs,w64,zt]at zz))<;>try dsimp only)
  rw[ws he.2.1 (by omega)];rcases hN2 with e|e|e|e|e
  all_goals
    rw[e]at h3⊢;simp(disch:=omega)only[w64];refine(hr d (by omega) _ (by omega) (by omega)).mono ?_;rintro _ rfl;exact ret1 (by omega)
theorem sst_try {i m e j:Nat}{x1 x2 x:Int}(h:opAt b i=8)(he:i<m∧m<e∧e<b.length∧e<j)(hx:0≤x∧x≤4398046511104∧0≤x1∧x1≤4398046511104∧0≤x2∧x2≤4398046511104)(hE:End b i m e)(h1:Sst b (i+1) m x1)(h2:Sst b (m+1) e x2)(hr:SstL b (e+1) j x):SstL b i j (1+x1+x2+x):=by
  intro d hd n h0 h3;obtain⟨d,rfl⟩:∃d',d=d'+1:=⟨d-1,by omega⟩
  have hi:=opAt_in h (by omega);rw[opAt_lt hi]at h;have hm:m<b.length:=by omega
  have h2:Ans n_spec_l3Steps s_spec_l3Steps (b,IntKind.i64.wrap ((m:Int)+1),(e:Int),()) ((x2,()),()):=by rw[ws hm (by omega)];exact h2
  refine Tq.succ ?_;show Tq _ (fun k q=>spec_l3Steps.step0 (cl k) k ..) _
  unfold spec_l3Steps.step0;rw[ws hi (by omega)]
  repeat'((first|refine .ba hE ?_|refine .ba h1 ?_|refine .ba h2 ?_|refine .t ?_|refine .u ?_|refine .some lg0 ?_|refine .some lg ?_|refine .some lgI ?_|(refine .bif (fun zz=>?_) (fun zz=>?_)<;>try simp(disch:=omega)only[zs,w64,zt]at zz))<;>try dsimp only)
  rw[ws he.2.2.1 (by omega)];simp(disch:=omega)only[w64];refine(hr d (by omega) _ (by omega) (by omega)).mono ?_;rintro _ rfl;exact ret1 (by omega)
theorem sst_seg(hN:LoopOk b){t:Fs}{i j:Nat}(h:Seg b t i j):SstL b i j (t.steps b):=by
  have hb2:b.length≤1048576:=by omega
  induction h with
  |nil hi h=>exact sst_nil hb
  | leaf hi h hr ih=>
    have h1:=hr.le;have b1:=steps_40 hN hb hr;exact sst_leaf hb hi (by omega) (by omega) (by omega) (end_leaf hb2 hi (by omega) (blk_seg hb2 hr).blk) ih
  | one h ht he hr ih1 ih2=>
    have h1:=ht.le;have h2:=hr.le;have h3:=opAt_in he (by omega);have b1:=steps_40 hN hb ht;have b2:=steps_40 hN hb hr;have hE:=end_one hb2 h (blk_seg hb2 ht).blk he;unfold Fs.steps;rcases h with h|h
    . rw[if_pos h];exact sst_if1 hb h (by omega) (by omega) hE (ih1.sst (by omega)) ih2
    . rw[if_neg (by omega)];exact sst_loop hb h (by omega) (hN _ h) (by omega) hE (ih1.sst (by omega)) ih2
  | two h ht ho he hr ih1 ih2 ih3=>
    have h1:=ht.le;have h3:=ho.le;have h4:=hr.le;have h2:=opAt_in he (by omega);have b1:=steps_40 hN hb ht;have b2:=steps_40 hN hb ho;have b3:=steps_40 hN hb hr;have hE:=end_two hb2 h (blk_seg hb2 ht).blk (blk_seg hb2 ho).blk he;unfold Fs.steps;rcases h with h|h
    . rw[if_pos h.1];exact sst_if2 hb h.1 (by omega) (by omega) hE (ih1.sst (by omega)) (ih2.sst (by omega)) ih3
    . rw[if_neg (by omega)];exact sst_try hb h.1 (by omega) (by omega) hE (ih1.sst (by omega)) (ih2.sst (by omega)) ih3
end
/-! ### There is one reading-/
theorem Seg.uniq {b:List Sm}{t:Fs}{i j:Nat}(h:Seg b t i j):∀{t':Fs}{j':Nat},Seg b t' i j'→t=t'∧j=j':=by
  induction h with
  | @nil i hi h=>
    intro t' j' h';cases h' with
    |nil=>exact⟨rfl,rfl⟩
    |leaf a1 a2 a3=>omega
    |one a1 a2 a3 a4=>have:=opAt_ge (b:=b) (i:=i);omega
    |two a1 a2 a3 a4 a5=>have:=opAt_ge (b:=b) (i:=i);omega
  | @leaf r i j hi h hr ih=>
    intro t' j' h';cases h' with
    |nil a1 a2=>omega
    |leaf a1 a2 a3=>obtain⟨rfl,rfl⟩:=ih a3;exact⟨rfl,rfl⟩
    |one a1 a2 a3 a4=>omega
    |two a1 a2 a3 a4 a5=>omega
  | @one t r i e j h ht he hr ih1 ih2=>
    intro t' j' h';cases h' with
    |nil a1 a2=>have:=opAt_ge (b:=b) (i:=i);omega
    |leaf a1 a2 a3=>omega
    |one a1 a2 a3 a4=>obtain⟨rfl,rfl⟩:=ih1 a2;obtain⟨rfl,rfl⟩:=ih2 a4;exact⟨rfl,rfl⟩
    |two a1 a2 a3 a4 a5=>obtain⟨rfl,rfl⟩:=ih1 a2;omega
  | @two t o r i m e j h ht ho he hr ih1 ih2 ih3=>
    intro t' j' h';cases h' with
    |nil a1 a2=>have:=opAt_ge (b:=b) (i:=i);omega
    |leaf a1 a2 a3=>omega
    |one a1 a2 a3 a4=>obtain⟨rfl,rfl⟩:=ih1 a2;omega
    |two a1 a2 a3 a4 a5=>obtain⟨rfl,rfl⟩:=ih1 a2;obtain⟨rfl,rfl⟩:=ih2 a3;obtain⟨rfl,rfl⟩:=ih3 a5;exact⟨rfl,rfl⟩
def Nest(b:List Sm):Prop:=∃t,Seg b t 0 b.length
theorem nodes_ok {b:List Sm}(hb:b.length≤1048576){t:Fs}(h:Seg b t 0 b.length):Ans n_impl_nodesOf s_impl_nodesOf (b,()) ((t.trs,true,()),()):=by
  refine Gv.ans (Gv.of (fun k=>impl_nodesOf.F_eq (cl k) k b) ?_);unfold impl_nodesOf.F impl_nodesOf.Fm;refine Tq.bind ((many_seg hb h).many 0 0).tq ?_;rintro y ⟨m',e',rfl⟩;refine Tq.bt rfl (Tq.ret ?_);show((t.trs,(b.length:Int)==(b.length:Int),()),())=_
  rw[beq_self_eq_true]
theorem nodes_no {b:List Sm}(hb:b.length≤1048576)(h:¬Nest b):Gv n_impl_nodesOf s_impl_nodesOf (b,()) (fun(r:(List Tr×(Bool×Unit))×Unit)=>∃l,r=((l,false,()),())):=by
  refine Gv.of (fun k=>impl_nodesOf.F_eq (cl k) k b) ?_;unfold impl_nodesOf.F impl_nodesOf.Fm;rcases nest_total hb b.length 0 (by omega) (by omega)with⟨t,j,ht⟩|⟨_,f⟩
  . refine Tq.bind ((many_seg hb ht).many 0 0).tq ?_;rintro y ⟨m',e',rfl⟩;refine Tq.bt rfl (Tq.ret ⟨t.trs,?_⟩);show((t.trs,(j:Int)==(b.length:Int),()),())=_
    rw[beq_eq_false_iff_ne.2];intro e;obtain rfl:j=b.length:=by omega
    exact h ⟨t,ht⟩
  . refine Tq.bind (f.many 0 0).tq ?_;rintro y ⟨l,j,m',e',rfl⟩;exact Tq.bf rfl (Tq.ret ⟨_,rfl⟩)
theorem blk_no {b:List Sm}(hb:b.length≤1048576)(h:¬Nest b):∃x,x≠(b.length:Int)∧Blk b 0 x:=by
  rcases nest_total hb b.length 0 (by omega) (by omega)with⟨t,j,ht⟩|⟨f,_⟩
  . refine⟨j,?_,(blk_seg hb ht).blk⟩;intro e;obtain rfl:j=b.length:=by omega
    exact h ⟨t,ht⟩
  . exact⟨-1,by omega,f.blk⟩
/-! ### Statements-/
def StsOk(p:Pg):Prop:=∀s∈p.2.2.2.2.2.1,StOk p s
theorem StsOk.loop {p:Pg}(h:StsOk p):LoopOk p.2.2.2.2.2.1:=by
  intro i hi;have h1:=opAt_in hi (by omega);have h2:=(h _ (List.getElem_mem h1)).2.1.2.2.1;rw[NAt_lt h1];rw[opAt_lt h1]at hi;exact h2 hi
theorem sSts_loop(p:Pg)(h:Hd p)(hs:Small p):∀(d j:Nat),p.2.2.2.2.2.1.length-j=d→
    Tq (d+1) (fun k q=>spec_l3Stmts.L0 (cl k) k p q (j:Int)) (· =((bo (∀s∈p.2.2.2.2.2.1.drop j,StOk p s),()),())):=by
  have hb:=h.b;intro d
  induction d with
  | zero=>
    intro j hd;refine Tq.succ ?_;show Tq _ (fun k q=>spec_l3Stmts.step0 (cl k) k ..) _
    unfold spec_l3Stmts.step0
    repeat'((first|refine .t ?_|refine .u ?_|refine .some lg0 ?_|refine .some lg ?_|refine .some lgI ?_|(refine .bif (fun zz=>?_) (fun zz=>?_)<;>try simp(disch:=omega)only[zs,w64,zt]at zz))<;>try dsimp only)
    rw[bo_t (all_end (by omega))];exact Tq.ret rfl
  | succ d ih=>
    intro j hd;have hj:j<p.2.2.2.2.2.1.length:=by omega
    have hq:=hs.2.2.2.2 _ (List.getElem_mem hj);refine Tq.succ ?_;show Tq _ (fun k q=>spec_l3Stmts.step0 (cl k) k ..) _
    unfold spec_l3Stmts.step0;rw[bo_congr (all_drop hj)]
    repeat'((first|refine .ba (sStmt_ans p h _ hq.1 hq.2) ?_|refine .t ?_|refine .u ?_|refine .some lg0 ?_|refine .some lg ?_|refine .some lgI ?_|(refine .bif (fun zz=>?_) (fun zz=>?_)<;>try simp(disch:=omega)only[zs,w64,zt]at zz))<;>try dsimp only)
    . refine Tq.ret ?_;rw[bo_f];exact fun h=>absurd h.1 (by assumption)
    . rw[ws hj (by omega),bo_congr (and_iff_right (by assumption))];exact ih (j+1) (by omega)
theorem sSts_ans(p:Pg)(h:Hd p)(hs:Small p):Ans n_spec_l3Stmts s_spec_l3Stmts (p,()) ((bo (StsOk p),()),()):=by
  refine Gv.ans (Gv.of (fun k=>spec_l3Stmts.F_eq (cl k) k p) ?_);unfold spec_l3Stmts.F spec_l3Stmts.Fm;exact Tq.diag (sSts_loop p h hs _ 0 rfl)
/-! ### The code-/
def Long(p:Pg):Prop:=∃t,Seg p.2.2.2.2.2.1 t 0 p.2.2.2.2.2.1.length∧400<t.steps p.2.2.2.2.2.1
noncomputable def tailP(p:Pg):Int:=bif bo (Nest p.2.2.2.2.2.1)then(bif bo (Long p)then 6 else 0)else 5
noncomputable def codeP(p:Pg):Int:=
  bif bo (1≤p.1∧p.1≤8)then bif bo (InsOk p)then bif bo (RoomOk p)then bif bo (StsOk p)then tailP p else 4 else 3 else 2 else 1
theorem iCode_loop(p:Pg)(h:Hd p)(hs:Small p):∀(d j:Nat),p.2.2.2.2.2.1.length-j=d→(∀s∈p.2.2.2.2.2.1.take j,StOk p s)→
    Tq (d+1) (fun k q=>impl_CodeOf.L0 (cl k) k p q (j:Int)) (· =((bif bo (∀s∈p.2.2.2.2.2.1.drop j,StOk p s)then tailP p else 4,()),())):=by
  have hb:=h.b;intro d
  induction d with
  | zero=>
    intro j hd ht;rw[List.take_of_length_le (by omega)]at ht;refine Tq.succ ?_;show Tq _ (fun k q=>impl_CodeOf.step0 (cl k) k ..) _
    unfold impl_CodeOf.step0 tailP;rw[bo_t (all_end (by omega))];by_cases hn:Nest p.2.2.2.2.2.1
    . obtain⟨t,hn2⟩:=hn;have hl:(400<t.steps p.2.2.2.2.2.1)↔Long p:=⟨fun h=>⟨t,hn2,h⟩,fun⟨t',h1,h2⟩=>by obtain⟨rfl,_⟩:=h1.uniq hn2;exact h2⟩;rw[bo_t (P:=Nest p.2.2.2.2.2.1) ⟨t,hn2⟩,bo_congr hl.symm]
      repeat'((first|refine .ba (nodes_ok (by omega) hn2) ?_|refine .ba ((stp_seg (by omega) (StsOk.loop ht) hn2).stp) ?_|refine .t ?_|refine .u ?_|refine .some lg0 ?_|refine .some lg ?_|refine .some lgI ?_|(refine .bif (fun zz=>?_) (fun zz=>?_)<;>try simp(disch:=omega)only[zs,w64,zt]at zz))<;>try dsimp only)
      . rw[bo_t (by omega)];exact Tq.ret rfl
      . rw[bo_f (by omega)];exact Tq.ret rfl
    . rw[bo_f hn]
      repeat'((first|(refine .bind (nodes_no (by omega) hn).tq ?_;rintro y ⟨l,rfl⟩)|refine .t ?_|refine .u ?_|refine .some lg0 ?_|refine .some lg ?_|refine .some lgI ?_|(refine .bif (fun zz=>?_) (fun zz=>?_)<;>try simp(disch:=omega)only[zs,w64,zt]at zz))<;>try dsimp only)
      exact Tq.ret rfl
  | succ d ih=>
    intro j hd ht;have hj:j<p.2.2.2.2.2.1.length:=by omega
    have hq:=hs.2.2.2.2 _ (List.getElem_mem hj);refine Tq.succ ?_;show Tq _ (fun k q=>impl_CodeOf.step0 (cl k) k ..) _
    unfold impl_CodeOf.step0;rw[bo_congr (all_drop hj)]
    repeat'((first|refine .ba (iStmt_ans p h _ hq.1 hq.2) ?_|refine .t ?_|refine .u ?_|refine .some lg0 ?_|refine .some lg ?_|refine .some lgI ?_|(refine .bif (fun zz=>?_) (fun zz=>?_)<;>try simp(disch:=omega)only[zs,w64,zt]at zz))<;>try dsimp only)
    . rw[bo_f (fun h=>absurd h.1 (by assumption))];exact Tq.ret rfl
    . rw[ws hj (by omega),bo_congr (and_iff_right (by assumption))];refine ih (j+1) (by omega) ?_;intro s hs;rw[List.take_succ_eq_append_getElem hj]at hs;rcases List.mem_append.1 hs with h|h
      . exact ht s h
      . rw[List.mem_singleton.1 h];assumption
theorem iCode_ans(p:Pg)(hs:Small p):Ans n_impl_CodeOf s_impl_CodeOf (p,()) ((codeP p,()),()):=by
  refine Gv.ans (Gv.of (fun k=>impl_CodeOf.F_eq (cl k) k p) ?_);unfold impl_CodeOf.F impl_CodeOf.Fm codeP;by_cases h1:1≤p.1∧p.1≤8
  . rw[bo_t h1]
    repeat'((first|refine .ba (iIn_ans p h1) ?_|refine .ba (iRoom_ans p) ?_|refine .t ?_|refine .u ?_|refine .some lg0 ?_|refine .some lg ?_|refine .some lgI ?_|(refine .bif (fun zz=>?_) (fun zz=>?_)<;>try simp(disch:=omega)only[zs,w64,zt]at zz))<;>try dsimp only)
    . rw[bo_f (by assumption)];exact Tq.ret rfl
    . rw[bo_t (P:=InsOk p) (by assumption),bo_f (by assumption)];exact Tq.ret rfl
    . rw[bo_t (P:=InsOk p) (by assumption),bo_t (P:=RoomOk p) (by assumption)];exact Tq.diag (iCode_loop p ⟨h1,by assumption,by assumption⟩ hs _ 0 rfl (fun s h=>by cases h))
  . rw[bo_f h1]
    repeat'((first|refine .t ?_|refine .u ?_|refine .some lg0 ?_|refine .some lg ?_|refine .some lgI ?_|(refine .bif (fun zz=>?_) (fun zz=>?_)<;>try simp(disch:=omega)only[zs,w64,zt]at zz))<;>try dsimp only)
    all_goals exact Tq.ret rfl
theorem sCode_ans(p:Pg)(hs:Small p):Ans n_spec_CodeOf s_spec_CodeOf (p,()) ((codeP p,()),()):=by
  obtain⟨s1,s2,s3,s4,s5⟩:=hs;refine Gv.ans (Gv.of (fun k=>spec_CodeOf.F_eq (cl k) k p) ?_);unfold spec_CodeOf.F spec_CodeOf.Fm codeP;by_cases h1:1≤p.1∧p.1≤8
  . rw [bo_t h1];by_cases h2:InsOk p
    . rw [bo_t h2];have h3:=h2;obtain⟨⟨l1,l2⟩,l3,l4,l5⟩:=h3;have hb1:=sz_bd h1;have g1:=sIn_ans p h1 p.2.1 (by omega) true;rw[bo_t ⟨fun x hx=>⟨⟨(l3 x hx).1,(l3 x hx).2.1,by rw[(l3 x hx).2.2];omega,by rw[(l3 x hx).2.2];omega⟩,fun _=>(l3 x hx).2.2⟩,l1⟩]at g1;have g2:=sIn_ans p h1 p.2.2.1 (by omega) false;rw[bo_t ⟨fun x hx=>⟨l4 x hx,fun e=>by cases e⟩,l2⟩]at g2;have g3:=sAll_ans p (fun x hx=>by have:=l3 x hx;unfold LowOk at this;omega) (fun x hx=>by have:=l4 x hx;unfold SecOk at this;omega) l1 l2;by_cases h3:RoomOk p
      . rw [bo_t h3];have hd:Hd p:=⟨h1,h2,h3⟩;have hb2:=hd.b;by_cases h4:StsOk p
        . rw[bo_t h4];unfold tailP;by_cases hn:Nest p.2.2.2.2.2.1
          . obtain⟨t,hn2⟩:=hn;have hl:(400<t.steps p.2.2.2.2.2.1)↔Long p:=⟨fun h=>⟨t,hn2,h⟩,fun⟨t',h1,h2⟩=>by obtain⟨rfl,_⟩:=h1.uniq hn2;exact h2⟩;have g4:Ans n_spec_l3Block s_spec_l3Block (p.2.2.2.2.2.1,(0:Int),()) (((p.2.2.2.2.2.1.length:Int),()),()):=(blk_seg (by omega) hn2).blk;have g5:Ans n_spec_l3Steps s_spec_l3Steps (p.2.2.2.2.2.1,(0:Int),(p.2.2.2.2.2.1.length:Int),()) ((t.steps p.2.2.2.2.2.1,()),()):=(sst_seg (by omega) h4.loop hn2).sst (by have:=steps_40 h4.loop (by omega) hn2;omega);rw[bo_t (P:=Nest p.2.2.2.2.2.1) ⟨t,hn2⟩,bo_congr hl.symm]
            repeat'((first|refine .ba (l1In_ans _ _ _) ?_|refine .ba g1 ?_|refine .ba g2 ?_|refine .ba g3 ?_|refine .ba (sRoom_ans p) ?_|refine .ba (sSts_ans p hd ⟨s1,s2,s3,s4,s5⟩) ?_|refine .ba g4 ?_|refine .ba g5 ?_|refine .t ?_|refine .u ?_|refine .some lg0 ?_|refine .some lg ?_|refine .some lgI ?_|(refine .bif (fun zz=>?_) (fun zz=>?_)<;>try simp(disch:=omega)only[zs,w64,zt]at zz))<;>try dsimp only)
            . rw[bo_t (by omega)];exact Tq.ret rfl
            . rw[bo_f (by omega)];exact Tq.ret rfl
          . rw[bo_f hn];obtain⟨x,hx,g4⟩:=blk_no (by omega) hn;have g4:Ans n_spec_l3Block s_spec_l3Block (p.2.2.2.2.2.1,(0:Int),()) ((x,()),()):=g4
            repeat'((first|refine .ba (l1In_ans _ _ _) ?_|refine .ba g1 ?_|refine .ba g2 ?_|refine .ba g3 ?_|refine .ba (sRoom_ans p) ?_|refine .ba (sSts_ans p hd ⟨s1,s2,s3,s4,s5⟩) ?_|refine .ba g4 ?_|refine .t ?_|refine .u ?_|refine .some lg0 ?_|refine .some lg ?_|refine .some lgI ?_|(refine .bif (fun zz=>?_) (fun zz=>?_)<;>try simp(disch:=omega)only[zs,w64,zt]at zz))<;>try dsimp only)
            exact Tq.ret rfl
        . rw[bo_f h4]
          repeat'((first|refine .ba (l1In_ans _ _ _) ?_|refine .ba g1 ?_|refine .ba g2 ?_|refine .ba g3 ?_|refine .ba (sRoom_ans p) ?_|refine .ba (sSts_ans p hd ⟨s1,s2,s3,s4,s5⟩) ?_|refine .t ?_|refine .u ?_|refine .some lg0 ?_|refine .some lg ?_|refine .some lgI ?_|(refine .bif (fun zz=>?_) (fun zz=>?_)<;>try simp(disch:=omega)only[zs,w64,zt]at zz))<;>try dsimp only)
          exact Tq.ret rfl
      . rw[bo_f h3]
        repeat'((first|refine .ba (l1In_ans _ _ _) ?_|refine .ba g1 ?_|refine .ba g2 ?_|refine .ba g3 ?_|refine .ba (sRoom_ans p) ?_|refine .t ?_|refine .u ?_|refine .some lg0 ?_|refine .some lg ?_|refine .some lgI ?_|(refine .bif (fun zz=>?_) (fun zz=>?_)<;>try simp(disch:=omega)only[zs,w64,zt]at zz))<;>try dsimp only)
        exact Tq.ret rfl
    . rw[bo_f h2]
      repeat'((first|refine .ba (l1In_ans _ _ _) ?_|refine .ba (sIn_ans p h1 _ s1 _) ?_|refine .ba (sIn_ans p h1 _ s2 _) ?_|(refine Tq.ret rfl)|refine .t ?_|refine .u ?_|refine .some lg0 ?_|refine .some lg ?_|refine .some lgI ?_|(refine .bif (fun zz=>?_) (fun zz=>?_)<;>try simp(disch:=omega)only[zs,w64,zt]at zz))<;>try dsimp only)
      rename_i g1;have g2:=zz;obtain⟨g1,l1⟩:=g1;obtain⟨g2,l2⟩:=g2;have hb1:=sz_bd h1;have g3:=sAll_ans p (fun x hx=>by have:=(g1 x hx).1;unfold SecOk at this;omega) (fun x hx=>by have:=(g2 x hx).1;unfold SecOk at this;omega) l1 l2;refine Tq.bind g3.tq fun y hy=>?_
      subst hy;refine Tq.bt (decide_eq_true ?_) (Tq.ret rfl);show sumBits p.2.1+sumBits p.2.2.1>10
      rcases Int.lt_or_le 10 (sumBits p.2.1+sumBits p.2.2.1)with h|h
      . exact h
      . exact absurd ⟨⟨l1,l2⟩,fun x hx=>⟨(g1 x hx).1.1,(g1 x hx).1.2.1,(g1 x hx).2 rfl⟩,fun x hx=>(g2 x hx).1,h⟩ h2
  . rw[bo_f h1]
    repeat'((first|refine .ba (l1In_ans _ _ _) ?_|refine .t ?_|refine .u ?_|refine .some lg0 ?_|refine .some lg ?_|refine .some lgI ?_|(refine .bif (fun zz=>?_) (fun zz=>?_)<;>try simp(disch:=omega)only[zs,w64,zt]at zz))<;>try dsimp only)
    exact Tq.ret rfl
/-! ### Right programs-/
/--A right program,with its parts. -/
structure Ok (p:Pg) (t:Fs):Prop where
  hd:Hd p
  st:StsOk p
  seg:Seg p.2.2.2.2.2.1 t 0 p.2.2.2.2.2.1.length
  few:t.steps p.2.2.2.2.2.1≤400
def IsOk(p:Pg):Prop:=∃t,Ok p t
theorem codeP_zero(p:Pg):codeP p=0↔IsOk p:=by
  unfold codeP tailP;constructor
  . intro h;by_cases h1:1≤p.1∧p.1≤8
    . by_cases h2:InsOk p
      . by_cases h3:RoomOk p
        . by_cases h4:StsOk p
          . by_cases h5:Nest p.2.2.2.2.2.1
            . by_cases h6:Long p
              . rw[bo_t h1,bo_t h2,bo_t h3,bo_t h4,bo_t h5,bo_t h6]at h;exact absurd (show(6:Int)=0 from h) (by omega)
              . obtain⟨t,ht⟩:=h5;refine⟨t,⟨h1,h2,h3⟩,h4,ht,?_⟩;rcases Int.lt_or_le 400 (t.steps p.2.2.2.2.2.1)with h|h
                . exact absurd ⟨t,ht,h⟩ h6
                . exact h
            . rw[bo_t h1,bo_t h2,bo_t h3,bo_t h4,bo_f h5]at h;exact absurd (show(5:Int)=0 from h) (by omega)
          . rw[bo_t h1,bo_t h2,bo_t h3,bo_f h4]at h;exact absurd (show(4:Int)=0 from h) (by omega)
        . rw[bo_t h1,bo_t h2,bo_f h3]at h;exact absurd (show(3:Int)=0 from h) (by omega)
      . rw[bo_t h1,bo_f h2]at h;exact absurd (show(2:Int)=0 from h) (by omega)
    . rw[bo_f h1]at h;exact absurd (show(1:Int)=0 from h) (by omega)
  . rintro⟨t,⟨h1,h2,h3⟩,h4,h5,h6⟩;have h7:¬Long p:=by
      rintro⟨t',h8,h9⟩;obtain⟨rfl,_⟩:=h8.uniq h5;omega
    rw[bo_t h1,bo_t h2,bo_t h3,bo_t h4,bo_t (P:=Nest p.2.2.2.2.2.1) ⟨t,h5⟩,bo_f h7];rfl
theorem iOk_ans(p:Pg)(hs:Small p):Ans n_impl_ProgOk s_impl_ProgOk (p,()) ((bo (IsOk p),()),()):=by
  refine Gv.ans (Gv.of (fun k=>impl_ProgOk.F_eq (cl k) k p) ?_);unfold impl_ProgOk.F impl_ProgOk.Fm
  repeat'((first|refine .ba (iCode_ans p hs) ?_|refine .t ?_|refine .u ?_|refine .some lg0 ?_|refine .some lg ?_|refine .some lgI ?_|(refine .bif (fun zz=>?_) (fun zz=>?_)<;>try simp(disch:=omega)only[zs,w64,zt]at zz))<;>try dsimp only)
  exact Tq.ret (by rw[bo_beq (codeP_zero p)])
theorem sOk_ans(p:Pg)(hs:Small p):Ans n_spec_ProgOk s_spec_ProgOk (p,()) ((bo (IsOk p),()),()):=by
  refine Gv.ans (Gv.of (fun k=>spec_ProgOk.F_eq (cl k) k p) ?_);unfold spec_ProgOk.F spec_ProgOk.Fm
  repeat'((first|refine .ba (sCode_ans p hs) ?_|refine .t ?_|refine .u ?_|refine .some lg0 ?_|refine .some lg ?_|refine .some lgI ?_|(refine .bif (fun zz=>?_) (fun zz=>?_)<;>try simp(disch:=omega)only[zs,w64,zt]at zz))<;>try dsimp only)
  exact Tq.ret (by rw[bo_beq (codeP_zero p)])
end Go.Proofs.YtjgfofcgmcnblaaGreat.Pf
