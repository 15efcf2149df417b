/- Operations that change or make objects. No condition. -/
import Derived.Test.YtjgfofcgmcnblaaGreatPvA
import Derived.Laws.StructEq
import Derived.Laws.CopyRow
import Derived.Laws.BytesArg
import Derived.Laws.MakeOwn
import Derived.Great.BuildSlice
set_option linter.unusedVariables false
set_option linter.unusedSectionVars false
namespace Go.Pv
open Go
variable {own own':Own}{w w':World}{G G':Gs}{ρ:Type}{E:Env}
theorem Zgi {P:Program}{d:Nat}{xs ys:Array Value}{f:Field}{fs:List Field}{a b:Value}{r s:Bool}(hn:(f.name== "_")=false)(ha:(part f.type xs f.offset).run P w=.ok a w)(hb:(part f.type ys f.offset).run P w=.ok b w)(he:(Op.equalIn d f.type a b).run P w=.ok r w)
   (hr:(Op.eqFields d xs ys fs).run P w=.ok s w):(Op.eqFields d xs ys (f::fs)).run P w=.ok (r&&s) w:=by
 have hn':f.name≠ "_" :=by simpa using hn
 rw[Op.eqFields];simp only[if_pos hn',Sem.run_bind,ha,hb,he,Result.andThen_ok];cases r
 . simp
 . simpa using hr
theorem Za9 {f:Nat->Ty->Bool}{P:Program}{d:Nat}(hf:∀T t,f T t=true->∀{x y:t.den}{cx cy:List Value}{p q:Pos}{vx vy:Value},Rep own w t x p cx->Rep own w t y q cy->IsVal t.agg cx vx->IsVal t.agg cy vy->
     (Op.equalIn d T vx vy).run P w=.ok (eqV t x y) w) (hp:∀T t,f T t=true->∃j,TIok P j T/\j.size=t.size/\j.agg=t.agg):
   ∀ (t:Ty){fl:List Field}{x y:t.den}{cx cy c0 d0:List Value}{p q:Pos},(∀g∈fl,(g.name== "_")=false)->eqFs f c0.length (fl.map fun g=>(g.offset,g.type)) t=true->c0.length=d0.length->Rep own w t x p cx->Rep own w t y q cy->
     (Op.eqFields d (c0++cx).toArray (d0++cy).toArray fl).run P w=.ok (eqV t x y) w
 |.unit,[],x,y,cx,cy,c0,d0,p,q,hn,h,hl,hx,hy=>by simp[Op.eqFields,eqV]
 | .pair a b,g::fl,x,y,cx,cy,c0,d0,p,q,hn,h,hl,hx,hy=>by
   simp only[List.map_cons,eqFs]at h;cases h1:Nat.beq c0.length g.offset
   . rw[h1]at h;cases h
   rw[h1]at h;have h1:=Z2 h1;cases h2:f g.type a
   . rw[h2]at h;cases h
   rw[h2]at h;obtain⟨c1,c2,rfl,hx1,hx2⟩:=hx;obtain⟨d1,d2,rfl,hy1,hy2⟩:=hy;obtain⟨j,hj,hjs,hja⟩:=hp _ _ h2;obtain⟨vx,hvx,hix⟩:=Z50 hj (c1:=c0) (c2:=c1) (c3:=c2) (hx1.length.trans hjs.symm) w;obtain⟨vy,hvy,hiy⟩:=Z50 hj (c1:=d0) (c2:=d1) (c3:=d2) (hy1.length.trans hjs.symm) w;rw[h1]at hvx;rw[<-hl,h1]at hvy;rw[hja]at hix hiy;have he:=hf _ _ h2 hx1 hy1 hix hiy;have hr:=Za9 hf hp b (fl:=fl) (c0:=c0++c1) (d0:=d0++d1) (fun g hg=>hn g (List.mem_cons_of_mem _ hg)) (by
     rw[List.length_append,hx1.length];exact h) (by rw[List.length_append,List.length_append,hx1.length,hy1.length,hl]) hx2 hy2
   rw[List.append_assoc,List.append_assoc]at hr;have:=Zgi (hn g List.mem_cons_self) hvx hvy he hr;rw[this];cases b<;>simp[eqV]
 |.pair _ _,[],_,_,_,_,_,_,_,_,_,h,_,_,_=>by cases h
 |.unit,_::_,_,_,_,_,_,_,_,_,_,h,_,_,_=>by cases h
 |.int _,fl,_,_,_,_,_,_,_,_,_,h,_,_,_=>by cases fl<;>cases h
 |.bool,fl,_,_,_,_,_,_,_,_,_,h,_,_,_=>by cases fl<;>cases h
 |.str,fl,_,_,_,_,_,_,_,_,_,h,_,_,_=>by cases fl<;>cases h
 |.slc _,fl,_,_,_,_,_,_,_,_,_,h,_,_,_=>by cases fl<;>cases h
 |.sptr _,fl,_,_,_,_,_,_,_,_,_,h,_,_,_=>by cases fl<;>cases h
 |.own _ _,fl,_,_,_,_,_,_,_,_,_,h,_,_,_=>by cases fl<;>cases h
 |.bx _,fl,_,_,_,_,_,_,_,_,_,h,_,_,_=>by cases fl<;>cases h
 |.hole _,fl,_,_,_,_,_,_,_,_,_,h,_,_,_=>by cases fl<;>cases h
 |.arr _ _,fl,_,_,_,_,_,_,_,_,_,h,_,_,_=>by cases fl<;>cases h
 |.mp _ _ _,fl,_,_,_,_,_,_,_,_,_,h,_,_,_=>by cases fl<;>cases h
 |.nilp,fl,_,_,_,_,_,_,_,_,_,h,_,_,_=>by cases fl<;>cases h
 |.fo,fl,_,_,_,_,_,_,_,_,_,h,_,_,_=>by cases fl<;>cases h
 |.hdr,fl,_,_,_,_,_,_,_,_,_,h,_,_,_=>by cases fl<;>cases h
 |.clo _ _,fl,_,_,_,_,_,_,_,_,_,h,_,_,_=>by cases fl<;>cases h
theorem Z7f {k T:Nat}{t:Ty}(h:eqT E k T t=true):∃k' i,k=k'+1/\E.ti T=some i/\i.eq=true/\i.size=t.size/\i.agg=t.agg/\eqM (eqT E k') i.d t=true:=by
 cases k with
 |zero=>cases h
 | succ k=>
   unfold eqT at h;cases hi:E.ti T with
   |none=>rw[hi]at h;cases h
   | some i=>
     rw[hi]at h;dsimp only at h;cases he:i.eq
     . rw[he]at h;cases h
     rw[he]at h;cases hs:Nat.beq i.size t.size
     . rw[hs]at h;cases h
     rw[hs]at h;cases ha:(i.agg==t.agg)
     . rw[ha]at h;cases h
     rw[ha]at h;exact⟨k,i,rfl,rfl,he,Z2 hs,eq_of_beq ha,h⟩
theorem Zaa(hE:EnvOk E){k T:Nat}{t:Ty}(h:eqT E k T t=true):E.P.eqGuardType E.P.depth T=false:=by
 obtain⟨_,i,_,hi,he,_⟩:=Z7f h;exact((hE.ti T i hi).eqs he).1
theorem Z5j(hE:EnvOk E)(d:Nat):∀{k T:Nat}{t:Ty}{x y:t.den}{cx cy:List Value}{p q:Pos}{vx vy:Value},eqT E k T t=true->Rep own w t x p cx->Rep own w t y q cy->IsVal t.agg cx vx->IsVal t.agg cy vy->
   (Op.equalIn (d+k) T vx vy).run E.P w=.ok (eqV t x y) w
 |0,T,t,x,y,cx,cy,p,q,vx,vy,h,hx,hy,hvx,hvy=>by cases h
 | k + 1,T,t,x,y,cx,cy,p,q,vx,vy,h,hx,hy,hvx,hvy=>by
   obtain⟨k',i,hk,hi,he,hz1,hz2,hm⟩:=Z7f h;clear hz1 hz2;cases hk;obtain⟨dd,hd,htd,_⟩:=(hE.ti T i hi).und;have hq:=(hE.ti T i hi).eqs he;unfold eqM at hm;split at hm
   . rename_i k1 k2 hd1;rw[hd1]at htd;simp only[TDok]at htd;subst htd;simp only[Rep]at hx hy;have hvx:cx=[vx]:=hvx;have hvy:cy=[vy]:=hvy;rw[hx.1]at hvx;rw[hy.1]at hvy;simp only[List.cons.injEq,and_true]at hvx hvy;subst hvx hvy;exact run_equalIn_int (P:=E.P) w (d+k) T k2 k1 x y hd
   . rename_i hd1;rw[hd1]at htd;simp only[TDok]at htd;subst htd;simp only[Rep]at hx hy;have hvx:cx=[vx]:=hvx;have hvy:cy=[vy]:=hvy;rw[hx]at hvx;rw[hy]at hvy;simp only[List.cons.injEq,and_true]at hvx hvy;subst hvx hvy;exact run_equalIn_bool' (P:=E.P) w (d+k) T x y hd
   . rename_i hd1;rw[hd1]at htd;simp only[TDok]at htd;subst htd;simp only[Rep]at hx hy;have hvx:cx=[vx]:=hvx;have hvy:cy=[vy]:=hvy;rw[hx.1]at hvx;rw[hy.1]at hvy;simp only[List.cons.injEq,and_true]at hvx hvy;subst hvx hvy;rw[<-Nat.add_assoc,run_equalIn_string (P:=E.P) w (d+k) T x y hd];simp only[eqV,beq_toListBytes]
   . rename_i fs a b hd1;rw[hd1]at htd;obtain⟨fields,rfl,hfs⟩:=htd;have hvx:vx=.agg cx.toArray:=hvx;have hvy:vy=.agg cy.toArray:=hvy;subst hvx hvy;have hF:E.P.fieldsOf T=fields:=by simp[Program.fieldsOf,hd]
     rw[<-Nat.add_assoc,run_equalIn_struct (P:=E.P) w (d+k) T _ _ (by rw[hF];exact hd) hq.2.1,hF];have:=Za9 (own:=own) (w:=w) (P:=E.P) (d:=d+k) (f:=eqT E k) (fun T' t' h'=>by
       intro x y cx cy p q vx vy h1 h2 h3 h4;exact Z5j hE d h' h1 h2 h3 h4) (fun T' t' h'=>?_) (.pair a b) (fl:=fields.toList) (c0:=[]) (d0:=[]) (x:=x) (y:=y) (fun g hg=>hq.2.2 fields hd g hg) (by rw[hfs];exact hm) rfl hx hy
     . simpa using this
     . obtain⟨k2,j,hk2,hj,hje,hjs,hja,hjm⟩:=Z7f h';exact⟨j,hE.ti T' j hj,hjs,hja⟩
   . cases hm
theorem Zf6(hE:EnvOk E){op:BinOp}{T:Nat}{a b:AV}{va vb:Value}{K:AV->Option ρ}{r:ρ}(x y:Operand)(ha:AVv own w G a va)(hb:AVv own w G b vb)(h:binK E op T a b K=some r):
   ∃t z v,K (.v t z)=some r/\(do eqGuard op T x y va vb;binOp op T va vb:Sem Value).run E.P w=.ok v w/\AVv own w G (.v t z) v:=by
 unfold binK at h;split at h
 . obtain⟨rfl,hx⟩:=ha.int;obtain⟨rfl,hy⟩:=hb.int;obtain⟨h0,h⟩:=Zbe h;have h0:=of_decide_eq_false h0;exact⟨_,_,_,h,by simp[Z7b,binOp,Op.shift,h0,shlI],.mkInt (wf_wrap _ _)⟩
 . obtain⟨rfl,hx⟩:=ha.int;obtain⟨rfl,hy⟩:=hb.int;obtain⟨h0,h⟩:=Zbe h;have h0:=of_decide_eq_false h0;exact⟨_,_,_,h,by simp[Z7b,binOp,Op.shift,h0,shrI],.mkInt (Zhv hx _)⟩
 . obtain⟨rfl,hx⟩:=ha.int;obtain⟨rfl,hy⟩:=hb.int;obtain⟨hk,h⟩:=Z0 h;have hk:=Z6l hk;subst hk;obtain⟨t,z,v,h1,h2,h3⟩:=Zf3 E.P w T hx ⟨by intro e;subst e;simp_all,by intro e;subst e;simp_all⟩ h;exact⟨t,z,v,h1,by simp[Z7b,h2],h3⟩
 . rename_i s1 s2;obtain⟨rfl,hx⟩:=ha.str;obtain⟨rfl,hy⟩:=hb.str;obtain⟨h0,h⟩:=Zk h;have h0:=of_decide_eq_true h0;have h1:¬((ByteArray.size s1+ByteArray.size s2:Nat):Int)>IntKind.i64.max:=fun hlt=>by
     have:IntKind.i64.max=9223372036854775807:=rfl;rw[this]at hlt;omega
   refine⟨_,_,_,h,by simp only[Sem.run_bind,Z7c,Result.andThen_ok,binOp,Op.stringOp,if_neg h1,Sem.run_pure],.mkStr ?_⟩;simp only[ByteArray.size_append,maxLen];omega
 . obtain⟨rfl,hx⟩:=ha.str;obtain⟨rfl,hy⟩:=hb.str;exact⟨_,_,_,h,by simp[Z7c,binOp,Op.stringOp],.mkBool⟩
 . obtain⟨rfl,hx⟩:=ha.str;obtain⟨rfl,hy⟩:=hb.str;exact⟨_,_,_,h,by simp[Z7c,binOp,Op.stringOp],.mkBool⟩
 . obtain rfl:=ha.bool;obtain rfl:=hb.bool;obtain⟨h0,h⟩:=Z0 h;exact⟨_,_,_,h,by simp only[Sem.run_bind,Z8q,Result.andThen_ok,run_eql_bool _ _ _ _ (Z8r hE h0)],.mkBool⟩
 . obtain rfl:=ha.bool;obtain rfl:=hb.bool;obtain⟨h0,h⟩:=Z0 h;exact⟨_,_,_,h,by simp only[Sem.run_bind,Z8q,Result.andThen_ok,run_neq_bool _ _ _ _ (Z8r hE h0)],.mkBool⟩
 . rename_i a b x u y;obtain⟨h1,h⟩:=Z0 h;obtain⟨h2,h⟩:=Z0 h;obtain⟨rfl,h⟩:=Z3 h;obtain⟨cx,⟨_,hx⟩,hvx⟩:=ha.cells rfl;obtain⟨cy,⟨_,hy⟩,hvy⟩:=hb.cells rfl;have h3:=Z5j hE 9992 h2 hx hy hvx hvy;have hvx:va=.agg cx.toArray:=hvx;have hvy:vb=.agg cy.toArray:=hvy;subst hvx hvy;refine⟨_,_,_,h,?_,.mkBool⟩;simp only[Sem.run_bind,run_eqGuard_agg _ _ _ _ _ _ _ (Zaa hE h2),Result.andThen_ok,run_eql_struct,h3];rfl
 . rename_i a b x u y;obtain⟨h1,h⟩:=Z0 h;obtain⟨h2,h⟩:=Z0 h;obtain⟨rfl,h⟩:=Z3 h;obtain⟨cx,⟨_,hx⟩,hvx⟩:=ha.cells rfl;obtain⟨cy,⟨_,hy⟩,hvy⟩:=hb.cells rfl;have h3:=Z5j hE 9992 h2 hx hy hvx hvy;have hvx:va=.agg cx.toArray:=hvx;have hvy:vb=.agg cy.toArray:=hvy;subst hvx hvy;refine⟨_,_,_,h,?_,.mkBool⟩;simp only[Sem.run_bind,run_eqGuard_agg _ _ _ _ _ _ _ (Zaa hE h2),Result.andThen_ok,run_neq_struct,h3];rfl
 . cases h
end Go.Pv
namespace Go.Pv
open Go
variable {own own':Own}{w w':World}{G G':Gs}{ρ:Type}{E:Env}
theorem Z27 {P:Program}{T:TypeId}{i:TI}(hi:TIok P i T){g o:Nat}{cur:Array Value}{tid:TypeId}{cs:List Value}{v:Value}(hg:w.heap[g]?=some (.cells cur tid (0,0)))(hv:IsVal i.agg cs v)
   (h1:∀u∈cs,u.oneCell'=true) (hl:cs.length=i.size) (hfit:o+cs.length<=cur.size):
   (storeVar T ⟨g,o,none⟩ v).run P w=.ok () (w.setRow g (cur.toList.take o++cs++cur.toList.drop (o+cs.length)).toArray):=by
 have hc:=hv.cells h1;have hst:=run_storeCells_at P g o tid cs 0 cur w hg (by simpa using hfit) h1;unfold storeVar;simp only[Sem.run_bind,Z2l hi,Result.andThen_ok,hc,List.size_toArray,hl,ne_eq,not_true_eq_false,if_false];simpa[hl]using hst
theorem ObR.touch {g:Nat}{o o':Id}{s:List Nat}{b:Ob}{P:Id->Prop}(h:ObR own w G o' b)(hg:own g=.ob o s)(hw:∀k,k≠g->w'.heap[k]?=w.heap[k]?)(hne:o'≠o)
   (hm:∀a,b=.box a->a.men P):ObR own w' G o' b:=by
 have hs:Sealed own w own w':=fun k hk=>⟨hk,hw k fun e=>by rw[e,hg]at hk;cases hk⟩
 have hlab:∀k r,own k=.ob o' r->k≠g:=fun k r hk e=>by
   rw[e,hg]at hk;cases hk;exact hne rfl
 cases b with
 | box a=>
   obtain⟨hn,k,cur,T,h1,h2,h3,h4⟩:=h;exact⟨hn,k,cur,T,h1,h2,(hw k (hlab k _ h2)).trans h3,AVc.keepOk hs (fun _ _=>rfl) hn.2 (hm a rfl) h4⟩
 | list tid e xs=>
   obtain⟨h1,h2,h3⟩:=h;exact⟨h1,h2,Rep.move hs (Mv.ob fun k r hk=>⟨by simpa using hk,hw k (hlab k r hk)⟩) h3⟩
 | map tid k v es=>
   obtain⟨h1,h2⟩:=h;exact⟨h1,Rep.move hs (Mv.obMap fun k r hk=>⟨by simpa using hk,hw k (hlab k r hk)⟩) h2⟩
theorem Z8g {O:Obs}{o:Id}(hO:Objs own w G O)(ho:has O o=true)(hn:(G o).nest=true){g:Nat}(hv:blk (G o).v=some g):own g=.ob o []:=by
 obtain⟨b,hb⟩:=has_look.1 ho;have h:=hO o b hb;cases b with
 |box a=>rw[h.1.1]at hn;cases hn
 | map tid k v es=>
   obtain⟨_,hr⟩:=h;simp only[Rep,List.cons.injEq,and_true]at hr;obtain⟨_,_,⟨h1,_⟩|⟨g',en,c,l,_,h1,h2,_⟩⟩:=hr
   . rw[h1]at hv;cases hv
   . rw[h1]at hv;cases hv;exact h2
 | list tid e xs=>
   obtain⟨_,_,hr⟩:=h;simp only[Rep,List.cons.injEq,and_true]at hr;rcases hr with⟨h1,_⟩|⟨g',cap,cur,h1,h2,_⟩
   . rw[h1]at hv;cases hv
   . rw[h1]at hv;cases hv;exact h2
theorem Z6p {O:Obs}{g:Nat}{o i:Id}{s:List Nat}(hO:Objs own w G O)(hg:own g=.ob o s)(hw:∀k,k≠g->w'.heap[k]?=w.heap[k]?)(hi:has O i=true)(hne:i≠o\/s≠[])(hn:(G i).nest=true):Z30 w w' (G i).v:=by
 intro k hv;refine hw _ fun e=>?_
 have:=Z8g hO hi hn hv;rw[e,hg]at this;cases this;exact hne.elim (fun h=>h rfl) fun h=>h rfl
theorem Z7z(w:World)(g:Nat)(cs:Array Value):(w.setRow g cs).heap.size=w.heap.size:=by simp[World.setRow]
theorem Post.putW {O:Obs}{o:Id}{b b':Ob}{g:Nat}{s:List Nat}{w':World}(hO:Objs own w G O)
   (hbd:∀g,w.heap.size<=g->own g=.out) (hl:look O o=some b) (hg:own g=.ob o s) (hw:∀k,k≠g->w'.heap[k]?=w.heap[k]?) (hsz:w'.heap.size=w.heap.size) (hos:w'.os=w.os) (htp:w'.tape=w.tape) (hout:w'.output=w.output) {bb:Bool} (hn:bb=false->(G o).nest=true->s≠[])
   (hb:(∀i,has O i=true->i≠o->(G i).nest=true->Z30 w w' (G i).v)->ObR own w' G o b') (hm:∀P:Id->Prop,(∀c,b=.box c->c.men P)->(∀i,has O i=true->P i)->∀a,b'=.box a->a.men P):
   Post own own w w' G G O (putA O o b') bb:=by
 have hsame:bb=false->∀i,has O i=true->(G i).nest=true->Z30 w w' (G i).v:=by
   intro hbb i hi hin;refine Z6p hO hg hw hi ?_ hin;by_cases e:i=o
   . subst e;exact .inr (hn hbb hin)
   . exact .inl e
 have hho:=Z1 hl;refine⟨?_,?_,fun _ _ _=>rfl,hsame,?_,?_,?_,?_,by rw[hsz];exact Nat.le_refl _,hos,htp,hout⟩
 . intro o' c hc;rw[Z2i _ _ _ _ hho]at hc;by_cases ho:o'=o
   . subst ho;rw[if_pos rfl]at hc;cases hc;exact hb fun i hi hne hin=>Z6p hO hg hw hi (.inl hne) hin
   . rw[if_neg ho]at hc;exact(hO o' c hc).touch (P:=fun _=>True) hg hw ho (fun a _=>vwK_some.AV.men.all a)
 . intro _ o' ho';exact(Zei _ _ _ _ hho).2 ho'
 . intro P hbox o' c hc;rw[Z2i _ _ _ _ hho]at hc;split at hc
   . cases hc;exact hm _ (fun c e=>(hbox o c (e▸hl)).mono fun i hi=>.inl hi) (fun i hi=>.inr ((Zei _ _ _ _ hho).2 hi)) c rfl
   . exact(hbox o' c hc).mono fun i hi=>.inl hi
 . intro k hk;exact⟨hk,hw k fun e=>by rw[e,hg]at hk;cases hk⟩
 . intro k _ hk;exact⟨hk,hw k fun e=>by rw[e,hg]at hk;cases hk⟩
 . intro k hk;rw[hsz]at hk;exact hbd k hk
theorem Post.put {O:Obs}{o:Id}{b b':Ob}{g:Nat}{s:List Nat}{new:Array Value}(hO:Objs own w G O)
   (hbd:∀g,w.heap.size<=g->own g=.out) (hl:look O o=some b) (hg:own g=.ob o s) {bb:Bool} (hn:bb=false->(G o).nest=true->s≠[])
   (hb:(∀i,has O i=true->i≠o->(G i).nest=true->Z30 w (w.setRow g new) (G i).v)->ObR own (w.setRow g new) G o b') (hm:∀P:Id->Prop,(∀c,b=.box c->c.men P)->(∀i,has O i=true->P i)->∀a,b'=.box a->a.men P):
   Post own own w (w.setRow g new) G G O (putA O o b') bb:=
 Post.putW hO hbd hl hg (fun k hk=>setRow_other w g k new hk) (Z7z _ _ _) rfl rfl rfl hn hb hm
theorem Zci {α:Type}(c1 c2 c3:List α):(c1++(c2++c3)).take c1.length=c1:=by simp
theorem Zcj {α:Type}(c1 c2 c3:List α):(c1++(c2++c3)).drop (c1.length+c2.length)=c3:=by
 rw[<-List.append_assoc,<-List.length_append];simp
theorem Z34:∀{p:List Bool}{a c:AV}{K:AV->Option ρ}{r:ρ},setF a p c K=some r->∃b,K b=some r/\(p≠[]->b.agg=true)/\setF a p c some=some b
 | [],a,c,K,r,h=>by
   unfold setF at h;have h':nif c.ok (nif (Nat.beq a.size c.size) (K c) none) none=some r:=by cases a<;>exact h
   obtain⟨h1,h'⟩:=Z0 h';obtain⟨h2,h'⟩:=Z0 h';refine⟨c,h',fun e=>(e rfl).elim,?_⟩;unfold setF;have:nif c.ok (nif (Nat.beq a.size c.size) (some c) none) none=some c:=by rw[h1,h2];rfl
   cases a<;>exact this
 | f::p,.pr a b,c,K,r,h=>by
   cases f<;>simp only[setF]at h⊢
   . obtain⟨b',h,_,h'⟩:=Z34 h;rw[Zf]at h;exact⟨_,h,fun _=>Z4d _ _,by rw[setF_eq,h'];simp[Zf]⟩
   . obtain⟨b',h,_,h'⟩:=Z34 h;rw[Zf]at h;exact⟨_,h,fun _=>Z4d _ _,by rw[setF_eq,h'];simp[Zf]⟩
 | f ::p,.v t x,c,K,r,h=>by
   cases t
   case pair a b=>
     cases f<;>simp only[setF]at h⊢
     . obtain⟨b',h,_,h'⟩:=Z34 h;rw[Zf]at h;exact⟨_,h,fun _=>Z4d _ _,by rw[setF_eq,h'];simp[Zf]⟩
     . obtain⟨b',h,_,h'⟩:=Z34 h;rw[Zf]at h;exact⟨_,h,fun _=>Z4d _ _,by rw[setF_eq,h'];simp[Zf]⟩
   all_goals(simp only[setF]at h;cases h)
 |f::p,.dead,c,K,r,h=>by simp only[setF]at h;cases h
 |f::p,.tn,c,K,r,h=>by simp only[setF]at h;cases h
 |f::p,.tp _ _,c,K,r,h=>by simp only[setF]at h;cases h
 |f::p,.hole _,c,K,r,h=>by simp only[setF]at h;cases h
 |f::p,.ref _,c,K,r,h=>by simp only[setF]at h;cases h
 |f::p,.hs _ _ _,c,K,r,h=>by simp only[setF]at h;cases h
 |f::p,.p _ _ _,c,K,r,h=>by simp only[setF]at h;cases h
 |f::p,.e _ _ _ _,c,K,r,h=>by simp only[setF]at h;cases h
 |f::p,.s _ _ _,c,K,r,h=>by simp only[setF]at h;cases h
 |f::p,.ap _ _,c,K,r,h=>by simp only[setF]at h;cases h
 |f::p,.cl _ _,c,K,r,h=>by simp only[setF]at h;cases h
where
 setF_eq {p:List Bool} {a c:AV} {σ:Type} {K:AV->Option σ}:setF a p c K=(setF a p c some).bind K:=by
   induction p generalizing a σ with
   | nil=>
     have h1:∀{τ:Type}(K:AV->Option τ),setF a [] c K=nif c.ok (nif (Nat.beq a.size c.size) (K c) none) none:=by
       intro τ K;unfold setF;cases a<;>rfl
     rw[h1,h1];cases c.ok<;>cases Nat.beq a.size c.size<;>rfl
   | cons f p ih=>
     have hn:∀{τ:Type},(none:Option τ)=(none:Option AV).bind fun _=>none:=rfl
     cases a with
     | pr a b=>
       cases f<;>simp only[setF]
       . rw[ih,ih (K:=fun a'=>mkPr a' b some)];cases setF a p c some<;>simp[Zf]
       . rw[ih,ih (K:=fun b'=>mkPr a b' some)];cases setF b p c some<;>simp[Zf]
     | v t x=>
       cases t with
       | pair a b=>
         cases f<;>simp only[setF]
         . rw[ih,ih (K:=fun a'=>mkPr a' (.v b x.2) some)];cases setF (.v a x.1) p c some<;>simp[Zf]
         . rw[ih,ih (K:=fun b'=>mkPr (.v a x.1) b' some)];cases setF (.v b x.2) p c some<;>simp[Zf]
       | _=>simp only[setF];rfl
     | _=>simp only[setF];rfl
theorem Zf7 {T:TypeId}{P:Program}{i:TI}(hi:TIok P i T){O:Obs}{o:Id}{fp:List Bool}{off:Nat}{x c:AV}{va vx:Value}{K:AV->Option ρ}{r:ρ}(hO:Objs own w G O)
   (hbd:∀g,w.heap.size<=g->own g=.out) (ha:AVv own w G (.p o fp off) va) (hx:AVv own w G x vx) (hxm:x.men fun i=>has O i=true)
   (hs1:x.size=i.size) (hs2:x.agg=i.agg) (hl:look O o=some (.box c)) (hoff:offF c fp=off) (h:setF c fp x K=some r):
   ∃c' w',K c'=some r/\(Instr.storeAt T va vx).run P w=.ok () w'/\Post own own w w' G G O (putA O o (.box c')) false:=by
 obtain⟨hn,g,cur,T',hv,hob,hg,hc⟩:=hO o _ hl;obtain⟨g',hv',he⟩:=(ha.one rfl rfl);rw[hv]at hv';cases hv';simp only[List.cons.injEq,and_true]at he;subst he;obtain⟨ds,hds⟩:∃ds,x.ok=true->AVc own w G x ds/\IsVal x.agg ds vx:=by
   cases hok:x.ok
   . exact⟨[],fun e=>by cases e⟩
   . obtain⟨cs,h1,h2⟩:=hx.cells (Z7a hok);exact⟨cs,fun _=>⟨h1,h2⟩⟩
 obtain⟨c',hk,_,hk'⟩:=Z34 h;obtain⟨c0,c1,c2,c3,e0,hok,hcur,hlen,hl2,hb,hbm,_,hoo⟩:=Z20 (P:=fun _=>True) hc (vwK_some.AV.men.all c) (fun e=>(hds e).1) (vwK_some.AV.men.all x) hk';cases e0;obtain⟨hxc,hxv⟩:=hds hok;rw[hs2]at hxv;have hfit:off+ds.length<=cur.size:=by
   have:=congrArg List.length hcur;simp only[Array.length_toList,List.length_append]at this;omega
 have hst:=Z27 (P:=P) hi hg hxv hxc.one (hxc.length.trans hs1) hfit;have hnew:(cur.toList.take off++ds++cur.toList.drop (off+ds.length))=c1++(ds++c3):=by
   rw[hcur,<-hoff,<-hlen,<-hl2,Zci,Zcj,List.append_assoc]
 rw[hnew]at hst;refine⟨c',w.setRow g (c1++(ds++c3)).toArray,hk,by simpa[Instr.storeAt,Instr.sureAddr]using hst,Post.put hO hbd hl hob (fun _ e=>by rw[hn.1]at e;cases e) (fun _=>?_) (fun Q hQ hi a e=>by
   cases e;obtain⟨c0,d1,d2,d3,e0,_,_,_,_,_,hcm,_⟩:=Z20 (P:=Q) (K:=some) (r:=c') hc (hQ c rfl) (fun e=>(hds e).1) (hxm.mono hi) hk';cases e0;exact hcm)⟩
 refine⟨⟨hn.1,hoo hn.2⟩,g,_,T',hv,hob,setRow_heap w g cur _ T' _ hg,?_⟩;exact AVc.keepOk (P:=fun _=>True) (fun k hk=>⟨hk,setRow_other w g k _ fun e=>by rw[e,hob]at hk;cases hk⟩) (fun _ _=>rfl) (hoo hn.2) hbm hb
theorem Zhc {α:Type}(l nb:List α)(a b k:Nat)(hb:b=a+nb.length)(hl:b<=l.length)(hk:k<a\/b<=k):(l.take a++nb++l.drop b)[k]?=l[k]?:=by
 have ha:(l.take a).length=a:=by rw[List.length_take];omega
 rcases hk with hk|hk
 . rw[List.append_assoc,List.getElem?_append_left (by omega),List.getElem?_take,if_pos hk]
 . rw[List.getElem?_append_right (by rw[List.length_append,ha];omega),List.getElem?_drop,List.length_append,ha]
   congr 1
   omega
theorem Z5k {α:Type}(l nb:List α)(s j i:Nat)(hnb:nb.length=s)(hj:j*s+s<=l.length)(hij:i≠j):
   ((l.take (j*s)++nb++l.drop (j*s+s)).drop (i*s)).take s=(l.drop (i*s)).take s:=by
 apply List.ext_getElem?;intro q;rw[List.getElem?_take,List.getElem?_take];split
 . rename_i hq;rw[List.getElem?_drop,List.getElem?_drop];refine Zhc l nb _ _ _ (by rw[hnb]) hj ?_;rcases Nat.lt_or_gt_of_ne hij with h|h
   . left;have:=Nat.mul_le_mul_right s (Nat.succ_le_of_lt h);rw[Nat.succ_mul]at this;omega
   . right;have:=Nat.mul_le_mul_right s (Nat.succ_le_of_lt h);rw[Nat.succ_mul]at this;omega
 . rfl
theorem Z6q {α:Type}(l nb:List α)(s j:Nat)(hnb:nb.length=s)(hj:j*s+s<=l.length):((l.take (j*s)++nb++l.drop (j*s+s)).drop (j*s)).take s=nb:=by
 have ha:(l.take (j*s)).length=j*s:=by rw[List.length_take];omega
 rw[List.append_assoc];have:(l.take (j*s)++(nb++l.drop (j*s+s))).drop (j*s)=nb++l.drop (j*s+s):=by
   have h:=List.drop_left (l₁:=l.take (j*s)) (l₂:=nb++l.drop (j*s+s));rwa[ha]at h
 rw[this,<-hnb,List.take_left]
theorem Zab {α:Type}(l:List α)(a s:Nat):l=l.take a++((l.drop a).take s++l.drop (a+s)):=by
 rw[<-List.drop_drop,List.take_append_drop,List.take_append_drop]
theorem Zen {α:Type}(A c1 c2 c3 ds B:List α)(h:c2.length=ds.length):
   (A++((c1++(c2++c3))++B)).take (A.length+c1.length)++ds++(A++((c1++(c2++c3))++B)).drop (A.length+c1.length+ds.length)=A++(c1++(ds++c3))++B:=by
 have h1:A++((c1++(c2++c3))++B)=(A++c1)++(c2++(c3++B)):=by simp
 rw[h1,<-List.length_append,<-h,Zci,Zcj];simp
theorem Zdo {T:TypeId}{P:Program}{i:TI}(hi:TIok P i T){O:Obs}{o:Id}{fp:List Bool}{off j tid:Nat}{e:Ty}{xs:List e.den}{y:e.den}{x:AV}{va vx:Value}{K:AV->Option ρ}{r:ρ}(hO:Objs own w G O)
   (hbd:∀g,w.heap.size<=g->own g=.out) (ha:AVv own w G (.e o j fp off) va) (hx:AVv own w G x vx) (hxm:x.men fun i=>has O i=true)
   (hs1:x.size=i.size) (hs2:x.agg=i.agg) (hl:look O o=some (.list tid e xs)) (hpl:e.plain=true) (hoff:offT e fp=off) (hy:xs[j]?=some y) (h:setF (.v e y) fp x K=some r):
   ∃c' w',K c'=some r/\(Instr.storeAt T va vx).run P w=.ok () w'/\∀z:e.den,c'=.v e z->Post own own w w' G G O (putA O o (.list tid e (xs.set j z))) false:=by
 obtain⟨hsz,hn,hr⟩:=hO o _ hl;obtain⟨A,m,c,hv,hj,he⟩:=(ha.one rfl rfl);simp only[List.cons.injEq,and_true]at he;subst he;have hr0:=hr;rw[hv]at hr;simp only[Rep,List.cons.injEq,and_true,Value.slice.injEq,Option.some.injEq,reduceCtorEq,false_and,false_or]at hr;obtain⟨g,cap,cur,⟨rfl,rfl,rfl⟩,ho,hg,hc1,hc2,hc3,hel⟩:=hr;have hy1:=hel j y hy;obtain⟨ds,hds⟩:∃ds,x.ok=true->AVc own w G x ds/\IsVal x.agg ds vx:=by
   cases hok:x.ok
   . exact⟨[],fun e=>by cases e⟩
   . obtain⟨cs,h1,h2⟩:=hx.cells (Z7a hok);exact⟨cs,fun _=>⟨h1,h2⟩⟩
 obtain⟨c',c1,c2,c3,hk,hok,hcur,hlen,hl2,hb,hbm,hbs,_⟩:=Z20 (P:=fun i=>has O i=true) (a:=.v e y) ⟨hpl,Rep.plain (Sealed.refl _ _) _ hpl hy1⟩ trivial (fun e=>(hds e).1) hxm h;obtain⟨hxc,hxv⟩:=hds hok;rw[hs2]at hxv;rw[Z8s,hoff]at hlen;have hjs:j*e.size+e.size<=cur.size:=by
   have:=Nat.mul_le_mul_right e.size (show j+1<=c by omega);rw[Nat.succ_mul]at this;omega
 have hA:(cur.toList.take (j*e.size)).length=j*e.size:=by rw[List.length_take,Array.length_toList];omega
 have hes:(c1++(ds++c3)).length=e.size:=hb.length.trans hbs;have hfit:j*e.size+off+ds.length<=cur.size:=by
   simp only[List.length_append]at hes;omega
 have hst:=Z27 (P:=P) (o:=j*e.size+off) hi hg hxv hxc.one (hxc.length.trans hs1) hfit;have hnew:cur.toList.take (j*e.size+off)++ds++cur.toList.drop (j*e.size+off+ds.length)=cur.toList.take (j*e.size)++(c1++(ds++c3))++cur.toList.drop (j*e.size+e.size):=by
   have h1:=Zab cur.toList (j*e.size) e.size;rw[hcur]at h1;have h2:=Zen (cur.toList.take (j*e.size)) c1 c2 c3 ds (cur.toList.drop (j*e.size+e.size)) hl2;rw[<-h1,hA,hlen]at h2;exact h2
 rw[hnew]at hst;refine⟨c',_,hk,by rw[hsz,Zx,Zx,Nat.zero_add];exact hst,fun z hz=>?_⟩;subst hz;refine Post.put hO hbd hl ho (fun _ e=>by rw[hn,hpl]at e;cases e) (fun _=>?_) (fun _ _ _ a e=>by cases e);refine⟨hsz,hn,?_⟩;rw[hv];refine .inr ⟨g,c,_,by rw[List.length_set],ho,setRow_heap w g cur _ tid _ hg,by rw[List.length_set];exact hc1,hc2,?_,?_⟩
 . simp only[List.size_toArray,List.length_append,List.length_take,List.length_drop,Array.length_toList]at hes⊢;omega
 . intro q y' hq;have hs:Sealed own w own (w.setRow g (cur.toList.take (j*e.size)++(c1++(ds++c3))++cur.toList.drop (j*e.size+e.size)).toArray):=
     fun k hk=>⟨hk,setRow_other w g k _ fun e=>by rw[e,ho]at hk;cases hk⟩
   simp only;by_cases hqj:q=j
   . subst hqj;rw[Z6q _ _ _ _ hes (by rw[Array.length_toList];exact hjs)];rw[List.getElem?_set_self (List.getElem?_eq_some_iff.1 hy).1]at hq;cases hq;exact Rep.plain hs _ hpl hb.2
   . rw[Z5k _ _ _ _ _ hes (by rw[Array.length_toList];exact hjs) hqj];rw[List.getElem?_set_ne (Ne.symm hqj)]at hq;exact Rep.plain hs _ hpl (hel q y' hq)
inductive PutT:(e:Ty)->List Bool->e.den->e.den->(u:Ty)->u.den->u.den->Prop
 |here (e:Ty) (x y:e.den):PutT e [] x y e x y
 |left {a b:Ty} {p:List Bool} {x y:a.den} (z:b.den) {u:Ty} {c d:u.den} (h:PutT a p x y u c d):PutT (.pair a b) (false::p) (x,z) (y,z) u c d
 |right {a b:Ty} {p:List Bool} {x y:b.den} (z:a.den) {u:Ty} {c d:u.den} (h:PutT b p x y u c d):PutT (.pair a b) (true::p) (z,x) (z,y) u c d
def dv:List Bool->List Bool->Bool
 |a::p,b::q=>match a==b with|true=>dv p q|false=>true
 | _,_=>false
theorem PutT.sub {e:Ty}{p:List Bool}{x y:e.den}{u:Ty}{c d:u.den}(h:PutT e p x y u c d):subT e p=some u:=by
 induction h with
 |here e x y=>cases e<;>rfl
 |left z h ih=>exact ih
 |right z h ih=>exact ih
theorem PutT.rep {e:Ty}{p:List Bool}{x y:e.den}{u:Ty}{c d:u.den}(h:PutT e p x y u c d):∀{q:Pos}{cs:List Value},Rep own w e x q cs->
   ∃ c1 c2 c3,cs=c1++(c2++c3)/\c1.length=offT e p/\Rep own w u c (q.at p) c2/\∀{own':Own}{w':World}{q2:Pos},
     (∀(t:Ty)(z:t.den)(p':List Bool)(zs:List Value),dv p' p=true->Rep own w t z (q.at p') zs->Rep own' w' t z (q2.at p') zs)->
     ∀ds,Rep own' w' u d (q2.at p) ds->Rep own' w' e y q2 (c1++(ds++c3)):=by
 induction h with
 | here e x y=>
   intro q cs hx;exact⟨[],cs,[],by simp,by cases e<;>rfl,hx,fun _ ds h=>by rw[List.nil_append,List.append_nil];exact h⟩
 | left z h ih=>
   intro q cs hx;obtain⟨d1,d2,rfl,h1,h2⟩:=hx;obtain⟨c1,c2,c3,rfl,hl,hc,hr⟩:=ih h1;refine⟨c1,c2,c3++d2,by simp,hl,hc,fun {own' w' q2} hmv ds hds=>?_⟩;exact⟨c1++(ds++c3),d2,by simp,hr (q2:=q2.go 0) (fun t z p' zs hd hz=>hmv t z (false::p') zs hd hz) ds hds,hmv _ _ [true] _ rfl h2⟩
 | right z h ih=>
   intro q cs hx;obtain⟨d1,d2,rfl,h1,h2⟩:=hx;obtain⟨c1,c2,c3,rfl,hl,hc,hr⟩:=ih h2;refine⟨d1++c1,c2,c3,by simp,by simp only[List.length_append,offT,hl,h1.length];rfl,hc,fun {own' w' q2} hmv ds hds=>?_⟩;exact⟨d1,c1++(ds++c3),by simp,hmv _ _ [false] _ rfl h1,hr (q2:=q2.go 1) (fun t z p' zs hd hz=>hmv t z (true::p') zs hd hz) ds hds⟩
theorem Zgj {a b:AV}{t u:Ty}{z:(Ty.pair t u).den}(h:mkA a b=.v (.pair t u) z):a=.v t z.1/\b=.v u z.2:=by
 unfold mkA mkPr at h;split at h
 . cases h;exact⟨rfl,rfl⟩
 . cases h
theorem Z8w:∀{p:List Bool}{e:Ty}{y:e.den}{x:AV}{K:AV->Option ρ}{r:ρ},setF (.v e y) p x K=some r->
   ∃b,K b=some r/\∀z:e.den,b=.v e z->∃u a c,x=.v u c/\PutT e p y z u a c
 | [],e,y,x,K,r,h=>by
   have h':nif x.ok (nif (Nat.beq e.size x.size) (K x) none) none=some r:=by cases e<;>exact h
   obtain⟨_,h'⟩:=Z0 h';obtain⟨_,h'⟩:=Z0 h';exact⟨x,h',fun z hz=>⟨e,y,z,hz,.here e y z⟩⟩
 | f ::p,e,y,x,K,r,h=>by
   cases e
   case pair a b=>
     obtain⟨y1,y2⟩:=y;cases f
     . simp only[setF]at h;obtain⟨b',h,hp⟩:=Z8w h;rw[Zf]at h;refine⟨_,h,fun z hz=>?_⟩;obtain⟨h1,h2⟩:=Zgj hz;obtain⟨z1,z2⟩:=z;obtain⟨u,a',c,hx,hput⟩:=hp _ h1;cases h2;exact⟨u,a',c,hx,.left _ hput⟩
     . simp only[setF]at h;obtain⟨b',h,hp⟩:=Z8w h;rw[Zf]at h;refine⟨_,h,fun z hz=>?_⟩;obtain⟨h1,h2⟩:=Zgj hz;obtain⟨z1,z2⟩:=z;obtain⟨u,a',c,hx,hput⟩:=hp _ h2;cases h1;exact⟨u,a',c,hx,.right _ hput⟩
   all_goals(simp only[setF]at h;cases h)
theorem Z5l:∀{e:Ty}{x:e.den}{p:List Bool}{f:(tid:Nat)->(e2:Ty)->List e2.den->(List e2.den->Option ρ)->Option ρ}{K:e.den->Option ρ}{r:ρ},Z4v e x p f K=some r->
   ∃tid e2 ys K2,f tid e2 ys K2=some r/\∀ys' r',K2 ys'=some r'->∃y,PutT e p x y (.own tid e2) ys ys'/\K y=some r'
 |.own tid e2,xs,[],f,K,r,h=>⟨tid,e2,xs,K,h,fun ys' r' h=>⟨ys',.here _ _ _,h⟩⟩
 | .pair a b,x,false::p,f,K,r,h=>by
   obtain⟨tid,e2,ys,K2,h,hp⟩:=Z5l (e:=a) h;refine⟨tid,e2,ys,K2,h,fun ys' r' h=>?_⟩;obtain⟨y,hput,hk⟩:=hp ys' r' h;exact⟨(y,x.2),.left _ hput,hk⟩
 | .pair a b,x,true::p,f,K,r,h=>by
   obtain⟨tid,e2,ys,K2,h,hp⟩:=Z5l (e:=b) h;refine⟨tid,e2,ys,K2,h,fun ys' r' h=>?_⟩;obtain⟨y,hput,hk⟩:=hp ys' r' h;exact⟨(x.1,y),.right _ hput,hk⟩
 |.pair _ _,_,[],_,_,_,h=>by simp only[Z4v]at h;cases h
 |.int _,_,p,_,_,_,h=>by cases p<;>cases h
 |.bool,_,p,_,_,_,h=>by cases p<;>cases h
 |.str,_,p,_,_,_,h=>by cases p<;>cases h
 |.unit,_,p,_,_,_,h=>by cases p<;>cases h
 |.slc _,_,p,_,_,_,h=>by cases p<;>cases h
 |.sptr _,_,p,_,_,_,h=>by cases p<;>cases h
 |.own _ _,_,_::_,_,_,_,h=>by cases h
 |.bx _,_,p,_,_,_,h=>by cases p<;>cases h
 |.hole _,_,p,_,_,_,h=>by cases p<;>cases h
 |.arr _ _,_,p,_,_,_,h=>by cases p<;>cases h
 |.mp _ _ _,_,p,_,_,_,h=>by cases p<;>cases h
 |.nilp,_,p,_,_,_,h=>by cases p<;>cases h
 |.fo,_,p,_,_,_,h=>by cases p<;>cases h
 |.hdr,_,p,_,_,_,h=>by cases p<;>cases h
 |.clo _ _,_,p,_,_,_,h=>by cases p<;>cases h
theorem Zdp {T:TypeId}{P:Program}{i:TI}(hi:TIok P i T){O:Obs}{o:Id}{fp:List Bool}{off j tid:Nat}{e:Ty}{xs:List e.den}{y z:e.den}{u:Ty}{a c:u.den}{va vx:Value}(hO:Objs own w G O)
   (hbd:∀g,w.heap.size<=g->own g=.out) (ha:AVv own w G (.e o j fp off) va) (hx:AVv own w G (.v u c) vx)
   (hs1:u.size=i.size) (hs2:u.agg=i.agg) (hl:look O o=some (.list tid e xs)) (hoff:offT e fp=off) (hy:xs[j]?=some y) (hput:PutT e fp y z u a c):
   ∃w',(Instr.storeAt T va vx).run P w=.ok () w'/\Post own own w w' G G O (putA O o (.list tid e (xs.set j z))) true:=by
 obtain⟨hsz,hn,hr⟩:=hO o _ hl;obtain⟨A,m,cc,hv,hj,he⟩:=(ha.one rfl rfl);simp only[List.cons.injEq,and_true]at he;subst he;rw[hv]at hr;have hr0:=hr;simp only[Rep,List.cons.injEq,and_true,Value.slice.injEq,Option.some.injEq,reduceCtorEq,false_and,false_or]at hr;obtain⟨g,cap,cur,⟨rfl,rfl,rfl⟩,ho,hg,hc1,hc2,hc3,hel⟩:=hr;have ho:own g=.ob o []:=ho;have hy1:=hel j y hy;obtain⟨ds,⟨hup,hds⟩,hdv⟩:=hx.cells rfl;have hjs:j*e.size+e.size<=cur.size:=by
   have:=Nat.mul_le_mul_right e.size (show j+1<=cc by omega);rw[Nat.succ_mul]at this;omega
 have hA:(cur.toList.take (j*e.size)).length=j*e.size:=by rw[List.length_take,Array.length_toList];omega
 have hmove:∀w':World,(∀k,k≠g->w'.heap[k]?=w.heap[k]?)->∀(t:Ty)(z:t.den)(q:Nat)(s:List Nat)(zs:List Value),Rep own w t z ⟨o,q::s,false⟩ zs->Rep own w' t z ⟨o,q::s,false⟩ zs:=by
   intro w' hw t z q s zs hz;refine Rep.move (fun k hk=>⟨hk,hw k fun e=>by rw[e,ho]at hk;cases hk⟩) (Mv.sub fun k r hk=>⟨hk,hw k fun e=>by rw[e,ho]at hk;cases hk⟩) hz
 obtain⟨c1,c2,c3,hcur,hlen,hc,hfin⟩:=hput.rep hy1;have hl2:c2.length=ds.length:=by rw[hc.length,hds.length]
 rw[hoff]at hlen;have hes:(c1++(ds++c3)).length=e.size:=by
   have:=hy1.length;rw[hcur]at this;simp only[List.length_append]at this⊢;omega
 have hfit:j*e.size+off+ds.length<=cur.size:=by
   simp only[List.length_append]at hes;omega
 have hst:=Z27 (P:=P) (o:=j*e.size+off) hi hg (by rw[<-hs2];exact hdv) hds.one (hds.length.trans hs1) hfit;have hnew:cur.toList.take (j*e.size+off)++ds++cur.toList.drop (j*e.size+off+ds.length)=cur.toList.take (j*e.size)++(c1++(ds++c3))++cur.toList.drop (j*e.size+e.size):=by
   have h1:=Zab cur.toList (j*e.size) e.size;rw[hcur]at h1;have h2:=Zen (cur.toList.take (j*e.size)) c1 c2 c3 ds (cur.toList.drop (j*e.size+e.size)) hl2;rw[<-h1,hA,hlen]at h2;exact h2
 rw[hnew]at hst;refine⟨_,by rw[hsz,Zx,Zx,Nat.zero_add];exact hst,?_⟩;have hw:=fun k hk=>setRow_other w g k (cur.toList.take (j*e.size)++(c1++(ds++c3))++cur.toList.drop (j*e.size+e.size)).toArray hk
 refine Post.put hO hbd hl ho (fun e=>by cases e) (fun _=>?_) (fun _ _ _ a e=>by cases e);refine⟨hsz,hn,?_⟩;rw[hv];refine .inr ⟨g,cc,_,by rw[List.length_set],ho,setRow_heap w g cur _ tid _ hg,by rw[List.length_set];exact hc1,hc2,?_,?_⟩
 . simp only[List.size_toArray,List.length_append,List.length_take,List.length_drop,Array.length_toList]at hes⊢;omega
 . intro q y' hq;simp only;by_cases hqj:q=j
   . subst hqj;rw[Z6q _ _ _ _ hes (by rw[Array.length_toList];exact hjs)];rw[List.getElem?_set_self (List.getElem?_eq_some_iff.1 hy).1]at hq;cases hq;refine hfin (q2:=⟨o,[q],false⟩) (fun t z p' zs _ hz=>?_) ds (Rep.plain (fun k hk=>⟨hk,hw k fun e=>by rw[e,ho]at hk;cases hk⟩) _ hup hds);rw[show((⟨o,[],true⟩:Pos).el q)=⟨o,[q],false⟩from rfl,Pos.at_low]at hz;rw[Pos.at_low];exact hmove _ hw t z q (pn p') zs hz
   . rw[Z5k _ _ _ _ _ hes (by rw[Array.length_toList];exact hjs) hqj];rw[List.getElem?_set_ne (Ne.symm hqj)]at hq;exact hmove _ hw e y' q [] _ (hel q y' hq)
end Go.Pv
namespace Go.Pv
open Go
variable {own own':Own}{w w':World}{G G':Gs}{ρ:Type}{E:Env}
theorem Zf8(hE:EnvOk E){T:TypeId}{a i:AV}{va vi:Value}{K:AV->Option ρ}{r:ρ}(hT:Zc5 E T=true)(ha:AVv own w G a va)(hi:AVv own w G i vi)(h:idxK a i K=some r):
   ∃z v,K (.v (.int .u8) z)=some r/\(Instr.index T va vi).run E.P w=.ok v w/\AVv own w G (.v (.int .u8) z) v:=by
 unfold idxK at h;split at h
 . rename_i s k i;obtain⟨rfl,hs⟩:=ha.str;obtain⟨rfl,hwi⟩:=hi.int;obtain⟨h0,h⟩:=Zk h;have h0:=of_decide_eq_true h0;obtain⟨b,hb,h⟩:=bind_some h;unfold bt at hb;obtain⟨u,hu,rfl⟩:=Option.map_eq_some_iff.1 hb;have hlt:i.toNat<s.data.size:=(Array.getElem?_eq_some_iff.1 hu).1;have hu8:u.toNat<256:=u.toNat_lt;have hmin:IntKind.u8.min=0:=rfl;have hmax:IntKind.u8.max=255:=rfl;refine⟨_,_,h,?_,.mkInt (by simp only[Lit.wf,Bool.and_eq_true,decide_eq_true_eq,hmin,hmax];omega)⟩;have hget:s[i.toNat]?=some u:=by
     have:i.toNat<s.size:=hlt;rw[getElem?_pos s i.toNat this];have h2:=(Array.getElem?_eq_some_iff.1 hu).2;exact congrArg some h2
   unfold Instr.index;simp only[Sem.run_bind,asIntOf,Sem.run_pure,Result.andThen_ok,run_underlying (Za8 hE hT),if_pos h0,hget]
 . cases h
end Go.Pv
namespace Go.Pv
open Go
variable {own own':Own}{w w':World}{G G':Gs}{ρ:Type}{E:Env}
def Grows(own:Own)(w:World)(own':Own)(w':World):Prop:=∀g,own g≠.out->own' g=own g/\w'.heap[g]?=w.heap[g]?
theorem Grows.sealed(h:Grows own w own' w'):Sealed own w own' w':=fun g hg=>by
 have:=h g (by rw[hg];exact fun e=>by cases e);exact⟨this.1.trans hg,this.2⟩
theorem ObR.grow {P:Id->Prop}{o:Id}{b:Ob}(hg:Grows own w own' w')(h:ObR own w G o b)(he:G' o=G o)(hm:∀a,b=.box a->a.men P)(hG:∀i,P i->G' i=G i):ObR own' w' G' o b:=by
 cases b with
 | box a=>
   obtain⟨hn,g,cur,T,h1,h2,h3,h4⟩:=h;have hgg:=hg g (by rw[h2];exact fun e=>by cases e);exact⟨⟨by rw[he];exact hn.1,hn.2⟩,g,cur,T,by rw[he];exact h1,hgg.1.trans h2,hgg.2.trans h3,AVc.keepOk hg.sealed hG hn.2 (hm a rfl) h4⟩
 | list tid e xs=>
   obtain⟨h1,h2,h3⟩:=h;refine⟨by rw[he];exact h1,by rw[he];exact h2,?_⟩;rw[he];refine Rep.move hg.sealed (Mv.ob fun k r hk=>?_) h3;have hne:own k≠.out:=by rw[hk];intro e;cases e
   have h5:=hg k hne;exact⟨by rw[h5.1,hk];simp,h5.2⟩
 | map tid k v es=>
   obtain⟨h1,h2⟩:=h;refine⟨by rw[he];exact h1,?_⟩;rw[he];refine Rep.move hg.sealed (Mv.obMap fun k r hk=>?_) h2;have hne:own k≠.out:=by rw[hk];intro e;cases e
   have h5:=hg k hne;exact⟨by rw[h5.1,hk];simp,h5.2⟩
def oput(own:Own)(g:Nat)(l:Lb):Own:=fun k=>if k=g then l else own k
theorem Z2m(hbd:∀g,w.heap.size<=g->own g=.out)(ob:Obj)(l:Lb):Grows own w (oput own w.heap.size l) {w with heap:=w.heap.push ob}:=by
 intro g hg;have hlt:g<w.heap.size:=by
   rcases Nat.lt_or_ge g w.heap.size with h|h
   . exact h
   . exact(hg (hbd g h)).elim
 refine⟨if_neg (by omega),?_⟩;simp[Array.getElem?_push,Nat.ne_of_lt hlt]
theorem Post.alloc {O:Obs}{r:Id}{b:Ob}{x:Gh}{ob:Obj}{l:Lb}{Q:Id->Prop}(hO:Objs own w G O)(hbox:∀o c,look O o=some (.box c)->c.men Q)(hQ:¬Q r)
   (hbd:∀g,w.heap.size<=g->own g=.out) (hr:has O r=false)
   (hb:ObR (oput own w.heap.size l) {w with heap:=w.heap.push ob} (gput G r x) r b) (hm:∀a,b=.box a->a.men fun i=>has O i=true):
   Post own (oput own w.heap.size l) w {w with heap:=w.heap.push ob} G (gput G r x) O ((r,b)::O) false:=by
 have hg:=Z2m hbd ob l;have hne:∀o,has O o=true->o≠r:=by rintro o ho rfl;rw[hr]at ho;cases ho
 refine⟨?_,fun _ o ho=>(Zp _ _ _ _).2 (.inr ho),fun o ho _=>Z26 _ _ (hne o ho),fun _ o ho hn k hv=>?_,?_,hg.sealed,fun g hlt ho=>?_,fun g hge=>?_,by simp,rfl,rfl,rfl⟩
 . intro o c hc;rw[Z9]at hc;by_cases ho:o=r
   . subst ho;rw[if_pos rfl]at hc;cases hc;exact hb
   . rw[if_neg ho]at hc;exact ObR.grow (P:=Q) hg (hO o c hc) (Z26 _ _ ho) (fun a e=>hbox o a (e▸hc)) (fun i hi=>Z26 _ _ (by rintro rfl;exact hQ hi))
 . have h1:=Z8g hO ho hn hv;exact(hg _ (by rw[h1];intro e;cases e)).2
 . intro P hbox o c hc;rw[Z9]at hc;split at hc
   . cases hc;exact(hm c rfl).mono fun i hi=>.inr ((Zp _ _ _ _).2 (.inr hi))
   . exact(hbox o c hc).mono fun i hi=>.inl hi
 . refine⟨by rw[oput,if_neg (by omega)];exact ho,?_⟩;simp[Array.getElem?_push,Nat.ne_of_lt hlt]
 . simp only[Array.size_push]at hge;rw[oput,if_neg (by omega)];exact hbd g (by omega)
end Go.Pv
namespace Go.Pv
open Go
variable {own own':Own}{w w':World}{G G':Gs}{ρ:Type}{E:Env}
theorem Un.post {O O':Obs}{r:Id}{a:AV}{cs:List Value}{Q:Id->Prop}(h:Un own w Q r G G' O O' a cs)
   (hbd:∀g,w.heap.size<=g->own g=.out) (hr:∀o,pre r o=true->has O o=false):Post own own w w G G' O O' false where
 objs:=h.objs
 stay:=fun _ o ho=>by rw[Zh (h.more.kept o ho)];exact ho
 same:=fun o ho _=>by
   refine(h.more.same o ?_).1;cases e:pre r o
   . rfl
   . rw[hr o e]at ho;cases ho
 nest:=fun _ _ _ _ _ _=>rfl
 box:=fun P hbox o c hc=>by
   rcases h.box o c hc with h1|h1
   . exact(hbox o c h1).mono fun i hi=>.inl hi
   . exact h1.mono fun i hi=>.inr hi.1
 sealed:=.refl _ _
 outs:=fun _ _ h=>⟨h,rfl⟩
 bound:=hbd
 size:=Nat.le_refl _
 os:=rfl
 tape:=rfl
 output:=rfl
theorem Sl.none {own':Own}{w':World}:∀{t:Ty}{p:Pos},Sl (fun _=>.out) w own' w' t p
 |.int _,_=>trivial
 |.bool,_=>trivial
 |.str,_=>trivial
 |.unit,_=>trivial
 |.slc _,_=>trivial
 |.sptr _,_=>trivial
 |.hole _,_=>trivial
 |.arr _ _,_=>trivial
 |.mp _ _ _,_=>trivial
 |.nilp,_=>trivial
 |.fo,_=>trivial
 |.hdr,_=>trivial
 |.clo _ _,_=>trivial
 |.pair _ _,_=>⟨Sl.none,Sl.none⟩
 |.own _ _,_=>⟨fun _ h=>(nomatch h),fun _=>Sl.none⟩
 |.bx _,_=>⟨fun _ h=>(nomatch h),Sl.none⟩
end Go.Pv
namespace Go.Pv
open Go
variable {own own':Own}{w w':World}{G G':Gs}{ρ:Type}{E:Env}
theorem Z61(hE:EnvOk E){T:Nat}{K:Nat->Nat->Option ρ}{r:ρ}(h:Z6a E T K=some r):∃k v,E.P.underlying T=some (.map k v)/\K k v=some r:=by
 unfold Z6a tiK at h;split at h
 . rename_i i hi;dsimp only at h;split at h
   . rename_i k v he;obtain⟨d,hd,hk,_⟩:=(hE.ti T i hi).und;rw[he]at hk;simp only[TDok]at hk;exact⟨k,v,by rw[hd,hk],h⟩
   . cases h
 . cases h
theorem Z80 {P:Program}(em:Bool)(n:Nat)(cs:Array Value)(w:World):∀fl:List Field,(∀f∈fl,∃v,(part f.type cs f.offset).run P w=.ok v w/\(Instr.checkKey em n f.type v).run P w=.ok () w)->
   (forIn fl PUnit.unit fun f _=>if f.name≠ "_" then(do Instr.checkKey em n f.type (<-part f.type cs f.offset);pure (ForInStep.yield PUnit.unit))else pure (ForInStep.yield PUnit.unit):Sem PUnit).run P w=.ok PUnit.unit w
 |[],_=>by simp
 | f::fl,h=>by
   obtain⟨v,h1,h2⟩:=h f List.mem_cons_self;have ih:=Z80 em n cs w fl fun g hg=>h g (List.mem_cons_of_mem _ hg)
   simp only[List.forIn_cons,Sem.run_bind,Sem.run_ite];split
   . simp only[h1,h2,Result.andThen_ok,Sem.run_pure];exact ih
   . simp only[Sem.run_pure,Result.andThen_ok];exact ih
theorem Zeo {f:Nat->Ty->Bool}{P:Program}{em:Bool}{d:Nat}(hf:∀T t,f T t=true->∀{x:t.den}{cx:List Value}{p:Pos}{vx:Value},Rep own w t x p cx->IsVal t.agg cx vx->(Instr.checkKey em d T vx).run P w=.ok () w)
   (hp:∀T t,f T t=true->∃j,TIok P j T/\j.size=t.size/\j.agg=t.agg):
   ∀ (t:Ty){fl:List Field}{x:t.den}{cx c0:List Value}{p:Pos},eqFs f c0.length (fl.map fun g=>(g.offset,g.type)) t=true->Rep own w t x p cx->
     ∀g∈fl,∃v,(part g.type (c0++cx).toArray g.offset).run P w=.ok v w/\(Instr.checkKey em d g.type v).run P w=.ok () w
 |.unit,[],x,cx,c0,p,h,hx=>by simp
 | .pair a b,g::fl,x,cx,c0,p,h,hx=>by
   simp only[List.map_cons,eqFs]at h;cases h1:Nat.beq c0.length g.offset
   . rw[h1]at h;cases h
   rw[h1]at h;have h1:=Z2 h1;cases h2:f g.type a
   . rw[h2]at h;cases h
   rw[h2]at h;obtain⟨c1,c2,rfl,hx1,hx2⟩:=hx;obtain⟨j,hj,hjs,hja⟩:=hp _ _ h2;obtain⟨vx,hvx,hix⟩:=Z50 hj (c1:=c0) (c2:=c1) (c3:=c2) (hx1.length.trans hjs.symm) w;rw[h1]at hvx;rw[hja]at hix;have hr:=Zeo hf hp b (fl:=fl) (c0:=c0++c1) (by rw[List.length_append,hx1.length];exact h) hx2;rw[List.append_assoc]at hr;intro q hq;rcases List.mem_cons.1 hq with rfl|hq
   . exact⟨vx,hvx,hf _ _ h2 hx1 hix⟩
   . exact hr q hq
 |.pair _ _,[],_,_,_,_,h,_=>by cases h
 |.unit,_::_,_,_,_,_,h,_=>by cases h
 |.int _,fl,_,_,_,_,h,_=>by cases fl<;>cases h
 |.bool,fl,_,_,_,_,h,_=>by cases fl<;>cases h
 |.str,fl,_,_,_,_,h,_=>by cases fl<;>cases h
 |.slc _,fl,_,_,_,_,h,_=>by cases fl<;>cases h
 |.sptr _,fl,_,_,_,_,h,_=>by cases fl<;>cases h
 |.own _ _,fl,_,_,_,_,h,_=>by cases fl<;>cases h
 |.bx _,fl,_,_,_,_,h,_=>by cases fl<;>cases h
 |.hole _,fl,_,_,_,_,h,_=>by cases fl<;>cases h
 |.arr _ _,fl,_,_,_,_,h,_=>by cases fl<;>cases h
 |.mp _ _ _,fl,_,_,_,_,h,_=>by cases fl<;>cases h
 |.nilp,fl,_,_,_,_,h,_=>by cases fl<;>cases h
 |.fo,fl,_,_,_,_,h,_=>by cases fl<;>cases h
 |.hdr,fl,_,_,_,_,h,_=>by cases fl<;>cases h
 |.clo _ _,fl,_,_,_,_,h,_=>by cases fl<;>cases h
theorem Z3u(hE:EnvOk E)(em:Bool)(d:Nat):∀{k T:Nat}{t:Ty}{x:t.den}{cx:List Value}{p:Pos}{vx:Value},eqT E k T t=true->Rep own w t x p cx->IsVal t.agg cx vx->
   (Instr.checkKey em (d+k) T vx).run E.P w=.ok () w
 |0,T,t,x,cx,p,vx,h,hx,hvx=>by cases h
 | k + 1,T,t,x,cx,p,vx,h,hx,hvx=>by
   obtain⟨k',i,hk,hi,he,hz1,hz2,hm⟩:=Z7f h;clear hz1 hz2;cases hk;obtain⟨dd,hd,htd,_⟩:=(hE.ti T i hi).und;unfold eqM at hm;split at hm
   . rename_i k1 k2 hd1;rw[hd1]at htd;simp only[TDok]at htd;subst htd;rw[<-Nat.add_assoc];simp[Instr.checkKey,run_underlying hd]
   . rename_i hd1;rw[hd1]at htd;simp only[TDok]at htd;subst htd;rw[<-Nat.add_assoc];simp[Instr.checkKey,run_underlying hd]
   . rename_i hd1;rw[hd1]at htd;simp only[TDok]at htd;subst htd;rw[<-Nat.add_assoc];simp[Instr.checkKey,run_underlying hd]
   . rename_i fs a b hd1;rw[hd1]at htd;obtain⟨fields,rfl,hfs⟩:=htd;have hvx:vx=.agg cx.toArray:=hvx;subst hvx;have:=Zeo (own:=own) (w:=w) (P:=E.P) (d:=d+k) (em:=em) (f:=eqT E k) (fun T' t' h'=>by
       intro x cx p vx h1 h3;exact Z3u hE em d h' h1 h3) (fun T' t' h'=>?_) (.pair a b) (fl:=fields.toList) (c0:=[]) (x:=x) (by rw[hfs];exact hm) hx
     . rw[<-Nat.add_assoc];unfold Instr.checkKey;simp only[Sem.run_bind,run_underlying hd,Result.andThen_ok];rw[<-Array.forIn_toList];have h5:=Z80 em (d+k) _ w _ this;rw[List.nil_append]at h5;rw[h5];rfl
     . obtain⟨k2,j,hk2,hj,hje,hjs,hja,hjm⟩:=Z7f h';exact⟨j,hE.ti T' j hj,hjs,hja⟩
   . cases hm
theorem Rep.flat_det:∀{t:Ty}{x:t.den}{p q:Pos}{cs ds:List Value}{own own':Own}{w w':World},t.flat=true->Rep own w t x p cs->Rep own' w' t x q ds->cs=ds
 |.int _,_,_,_,_,_,_,_,_,_,_,h,h'=>by simp only[Rep]at h h';rw[h.1,h'.1]
 |.bool,_,_,_,_,_,_,_,_,_,_,h,h'=>by simp only[Rep]at h h';rw[h,h']
 |.str,_,_,_,_,_,_,_,_,_,_,h,h'=>by simp only[Rep]at h h';rw[h.1,h'.1]
 |.unit,_,_,_,_,_,_,_,_,_,_,h,h'=>by simp only[Rep]at h h';rw[h,h']
 | .pair a b,_,_,_,_,_,_,_,_,_,hf,h,h'=>by
   simp only[Rep]at h h';obtain⟨c1,c2,rfl,h1,h2⟩:=h;obtain⟨d1,d2,rfl,h1',h2'⟩:=h';simp only[Ty.flat]at hf;cases ha:a.flat
   . rw[ha]at hf;cases hf
   rw[ha]at hf;rw[Rep.flat_det ha h1 h1',Rep.flat_det (t:=b) hf h2 h2']
 |.slc _,_,_,_,_,_,_,_,_,_,hf,_,_=>by cases hf
 |.sptr _,_,_,_,_,_,_,_,_,_,hf,_,_=>by cases hf
 |.own _ _,_,_,_,_,_,_,_,_,_,hf,_,_=>by cases hf
 |.bx _,_,_,_,_,_,_,_,_,_,hf,_,_=>by cases hf
 |.hole _,_,_,_,_,_,_,_,_,_,hf,_,_=>by cases hf
 |.arr _ _,_,_,_,_,_,_,_,_,_,hf,_,_=>by cases hf
 |.mp _ _ _,_,_,_,_,_,_,_,_,_,hf,_,_=>by cases hf
 |.nilp,_,_,_,_,_,_,_,_,_,hf,_,_=>by cases hf
 |.fo,_,_,_,_,_,_,_,_,_,hf,_,_=>by cases hf
 |.hdr,_,_,_,_,_,_,_,_,_,hf,_,_=>by cases hf
 |.clo _ _,_,_,_,_,_,_,_,_,_,hf,_,_=>by cases hf
theorem Z7g:∀{t:Ty}{x:t.den}{p:Pos}{cs:List Value}{own:Own}{w:World},t.flat=true->Rep own w t x p cs->∀n,∀u∈cs,Instr.sameBits n u u=true
 |.int _,_,_,_,_,_,_,h,n,u,hu=>by simp only[Rep]at h;rw[h.1]at hu;simp at hu;subst hu;cases n<;>simp[Instr.sameBits]
 |.bool,_,_,_,_,_,_,h,n,u,hu=>by simp only[Rep]at h;rw[h]at hu;simp at hu;subst hu;cases n<;>simp[Instr.sameBits]
 |.str,_,_,_,_,_,_,h,n,u,hu=>by simp only[Rep]at h;rw[h.1]at hu;simp at hu;subst hu;cases n<;>simp only[Instr.sameBits]<;>exact(beq_toListBytes _ _).trans (by simp)
 |.unit,_,_,_,_,_,_,h,n,u,hu=>by simp only[Rep]at h;rw[h]at hu;simp at hu
 | .pair a b,_,_,_,_,_,hf,h,n,u,hu=>by
   simp only[Rep]at h;obtain⟨c1,c2,rfl,h1,h2⟩:=h;simp only[Ty.flat]at hf;cases ha:a.flat
   . rw[ha]at hf;cases hf
   rw[ha]at hf;rcases List.mem_append.1 hu with hu|hu
   . exact Z7g ha h1 n u hu
   . exact Z7g (t:=b) hf h2 n u hu
 |.slc _,_,_,_,_,_,hf,_,_,_,_=>by cases hf
 |.sptr _,_,_,_,_,_,hf,_,_,_,_=>by cases hf
 |.own _ _,_,_,_,_,_,hf,_,_,_,_=>by cases hf
 |.bx _,_,_,_,_,_,hf,_,_,_,_=>by cases hf
 |.hole _,_,_,_,_,_,hf,_,_,_,_=>by cases hf
 |.arr _ _,_,_,_,_,_,hf,_,_,_,_=>by cases hf
 |.mp _ _ _,_,_,_,_,_,hf,_,_,_,_=>by cases hf
 |.nilp,_,_,_,_,_,hf,_,_,_,_=>by cases hf
 |.fo,_,_,_,_,_,hf,_,_,_,_=>by cases hf
 |.hdr,_,_,_,_,_,hf,_,_,_,_=>by cases hf
 |.clo _ _,_,_,_,_,_,hf,_,_,_,_=>by cases hf
theorem Zgk {t:Ty}{x:t.den}{p:Pos}{cs:List Value}{v:Value}(hf:t.flat=true)(h:Rep own w t x p cs)(hv:IsVal t.agg cs v)(n:Nat):Instr.sameBits (n+1) v v=true:=by
 have hs:=Z7g hf h;cases hg:t.agg
 . rw[hg]at hv;simp only[IsVal]at hv;exact hs (n+1) v (by rw[hv];simp)
 . rw [hg]at hv;simp only[IsVal]at hv;subst hv;simp only[Instr.sameBits,Bool.and_eq_true,beq_self_eq_true,true_and,List.all_eq_true];intro q hq;obtain⟨a,b⟩:=q;have h1:a=b/\a∈cs:=by
     simp only[List.zip]at hq;rw[List.mem_iff_getElem?]at hq;obtain⟨i,hi⟩:=hq;rw[List.getElem?_zipWith]at hi;cases e:cs[i]? with
     |none=>rw[e]at hi;simp at hi
     | some c=>
       rw[e]at hi;simp only[Option.some.injEq,Prod.mk.injEq]at hi;exact⟨hi.1.symm.trans hi.2,hi.1▸List.mem_of_getElem? e⟩
   rw[<-h1.1];exact hs n a h1.2
theorem Z8x:∀{t:Ty},t.eqOk=true->t.flat=true
 |.int _,_=>rfl
 |.bool,_=>rfl
 |.unit,_=>rfl
 | .pair a b,h=>by
   simp only[Ty.eqOk]at h;cases ha:a.eqOk
   . rw[ha]at h;cases h
   rw[ha]at h;simp only[Ty.flat,Z8x ha,Z8x (t:=b) h];rfl
 |.str,h=>by cases h
 |.slc _,h=>by cases h
 |.sptr _,h=>by cases h
 |.own _ _,h=>by cases h
 |.bx _,h=>by cases h
 |.hole _,h=>by cases h
 |.arr _ _,h=>by cases h
 |.mp _ _ _,h=>by cases h
 |.nilp,h=>by cases h
 |.fo,h=>by cases h
 |.hdr,h=>by cases h
 |.clo _ _,h=>by cases h
theorem Z62 {t:Ty}(h:t.keyOk=true):t.flat=true:=by
 cases t with
 |int _=>rfl
 |str=>rfl
 |pair a b=>exact Z8x (t:=.pair a b) h
 | _=>cases h
theorem Zbm:∀{t:Ty}{x y:t.den},t.eqOk=true->eqV t x y=true->x=y
 |.int _,x,y,_,h=>by simp only[eqV]at h;exact eq_of_beq (α:=Int) h
 |.bool,x,y,_,h=>by simp only[eqV]at h;exact eq_of_beq (α:=Bool) h
 |.unit,x,y,_,_=>rfl
 | .pair a b,x,y,ho,h=>by
   simp only[Ty.eqOk]at ho;cases ha:a.eqOk
   . rw[ha]at ho;cases ho
   rw[ha]at ho;have h2:eqV a x.1 y.1=true/\eqV b x.2 y.2=true:=by
     cases b<;>first|(simp only[eqV,Bool.and_eq_true]at h⊢;first|exact h|exact⟨h,trivial⟩|exact⟨h.1,trivial⟩|exact⟨h,rfl⟩)|(simp only[eqV,Bool.and_eq_true]at h;first|exact h|exact⟨h,rfl⟩)
   exact Prod.ext (Zbm ha h2.1) (Zbm (t:=b) ho h2.2)
 |.str,_,_,h,_=>by cases h
 |.slc _,_,_,h,_=>by cases h
 |.sptr _,_,_,h,_=>by cases h
 |.own _ _,_,_,h,_=>by cases h
 |.bx _,_,_,h,_=>by cases h
 |.hole _,_,_,h,_=>by cases h
 |.arr _ _,_,_,h,_=>by cases h
 |.mp _ _ _,_,_,h,_=>by cases h
 |.nilp,_,_,h,_=>by cases h
 |.fo,_,_,h,_=>by cases h
 |.hdr,_,_,h,_=>by cases h
 |.clo _ _,_,_,h,_=>by cases h
theorem keyV_eq {t:Ty}{x y:t.den}(ho:t.keyOk=true)(h:eqV t x y=true):x=y:=by
 cases t with
 |int _=>exact Zbm (t:=.int _) rfl h
 | str=>
   simp only[eqV]at h;rw[beq_toListBytes]at h;have:=eq_of_beq h;rw[ByteArray.toList_eq,ByteArray.toList_eq]at this;obtain⟨⟨a⟩⟩:=x;obtain⟨⟨b⟩⟩:=y;exact congrArg _ (congrArg _ this)
 |pair a b=>exact Zbm (t:=.pair a b) ho h
 | _=>cases ho
def mloc(k:Ty){β:Type}:List (k.den×β)->List MapEntry->k.den->Nat->Option (Nat×Value)
 |(a,_)::l,e::ms,x,i=>bif eqV k x a then some (i,e.val)else mloc k l ms x (i+1)
 | _,_,_,_=>none
def MFit(own:Own)(w:World)(k:Ty){β:Type}(V:Nat->β->Value->Prop)(p:Pos):Nat->List MapEntry->List (k.den×β)->Prop
 | _,[],[]=>True
 |i,m::ms,x::es=>(∃kc,IsVal k.agg kc m.key/\Rep own w k x.1 p kc/\V i x.2 m.val)/\MFit own w k V p (i+1) ms es
 | _,_,_=>False
def VR(own:Own)(w:World)(v:Ty)(p:Pos)(i:Nat)(b:v.den)(u:Value):Prop:=∃vc,IsVal v.agg vc u/\Rep own w v b (p.el i) vc
theorem MFit.of {k:Ty}{β:Type}{V:Nat->β->Value->Prop}{p:Pos}:∀{i:Nat}{ms:List MapEntry}{es:List (k.den×β)},ms.length=es.length->
   (∀(j:Nat)(m:MapEntry)(x:k.den×β),ms[j]?=some m->es[j]?=some x->∃kc,IsVal k.agg kc m.key/\Rep own w k x.1 p kc/\V (i+j) x.2 m.val)->MFit own w k V p i ms es
 | _,[],[],_,_=>trivial
 | i,m::ms,x::es,hl,h=>⟨h 0 m x rfl rfl,MFit.of (by simpa using hl) fun j m x h1 h2=>by
     have:=h (j+1) m x (by simpa using h1) (by simpa using h2);rwa[show i+(j+1)=i+1+j by omega]at this⟩
 | _,[],_::_,hl,_=>by cases hl
 | _,_::_,[],hl,_=>by cases hl
theorem MFit.get {k:Ty}{β:Type}{V:Nat->β->Value->Prop}{p:Pos}:∀{i:Nat}{ms:List MapEntry}{es:List (k.den×β)},MFit own w k V p i ms es->ms.length=es.length/\
   ∀(j:Nat)(m:MapEntry)(x:k.den×β),ms[j]?=some m->es[j]?=some x->∃kc,IsVal k.agg kc m.key/\Rep own w k x.1 p kc/\V (i+j) x.2 m.val
 | _,[],[],_=>⟨rfl,fun i m x h _=>by simp at h⟩
 | i,m::ms,x::es,⟨h0,h⟩=>by
   obtain⟨h1,h2⟩:=MFit.get h;refine⟨by simp[h1],fun j m' x' h3 h4=>?_⟩;cases j with
   |zero=>simp at h3 h4;subst h3 h4;exact h0
   | succ j=>
     have:=h2 j m' x' (by simpa using h3) (by simpa using h4);rwa[show i+1+j=i+(j+1) by omega]at this
 | _,[],_::_,h=>h.elim
 | _,_::_,[],h=>h.elim
theorem Z4r(hE:EnvOk E){kT:Nat}{k:Ty}{β:Type}{V:Nat->β->Value->Prop}{x:k.den}{cx:List Value}{p q:Pos}{vx:Value}(ht:eqT E 8 kT k=true)(hx:Rep own w k x p cx)(hvx:IsVal k.agg cx vx):
   ∀{ms:List MapEntry}{es:List (k.den×β)}(i:Nat),MFit own w k V q i ms es->(Instr.findAsking kT vx ms i).run E.P w=.ok (mloc k es ms x i) w
 |[],[],i,_=>by simp[Instr.findAsking,mloc]
 | m::ms,(a,b)::es,i,⟨⟨kc,h1,h3,h4⟩,h⟩=>by
   have he:=Z5j hE 9992 ht hx h3 hvx h1;have ih:=Z4r hE ht hx hvx (i+1) h;unfold Instr.findAsking;simp only[Sem.run_bind,Op.equal,Op.maxDepth];simp only[show(9992+8:Nat)=10000 from rfl]at he;simp only[he,Result.andThen_ok,mloc];cases eqV k x a
   . simp only[Bool.false_eq_true,if_false,cond_false];exact ih
   . simp
 |[],_::_,_,h=>h.elim
 | _::_,[],_,h=>h.elim
theorem Z4g {d:TypeDesc}{k:Ty}{β:Type}{V:Nat->β->Value->Prop}{x:k.den}{q:Pos}{vx:Value}(hs:∀(a:k.den)(kc:List Value)(u:Value),Rep own w k a q kc->IsVal k.agg kc u->Instr.sameNow d vx u=some (eqV k x a)):
   ∀{ms:List MapEntry}{es:List (k.den×β)}(i:Nat),MFit own w k V q i ms es->Instr.findNow d vx ms i=some (mloc k es ms x i)
 |[],[],i,_=>rfl
 | m::ms,(a,b)::es,i,⟨⟨kc,h1,h3,h4⟩,h⟩=>by
   have ih:=Z4g hs (i+1) h;simp only[Instr.findNow,hs a kc m.key h3 h1,mloc];cases eqV k x a
   . exact ih
   . rfl
 |[],_::_,_,h=>h.elim
 | _::_,[],_,h=>h.elim
theorem Z6r(hE:EnvOk E){kT:Nat}{k:Ty}{β:Type}{V:Nat->β->Value->Prop}{x:k.den}{cx:List Value}{p q:Pos}{vx:Value}(hk:k.keyOk=true)(ht:eqT E 8 kT k=true)(hx:Rep own w k x p cx)(hvx:IsVal k.agg cx vx)
   {ms:List MapEntry} {es:List (k.den×β)} (h:MFit own w k V q 0 ms es):(Instr.findKey kT vx ms).run E.P w=.ok (mloc k es ms x 0) w:=by
 obtain⟨k',i,hk',hi,he,hz1,hz2,hm⟩:=Z7f ht;obtain⟨dd,hd,htd,_⟩:=(hE.ti kT i hi).und;have ha:=Z4r hE ht hx hvx 0 h;unfold Instr.findKey;simp only[Sem.run_bind,run_underlying hd,Result.andThen_ok];cases hf:Instr.findNow dd vx ms 0 with
 |none=>exact ha
 | some r=>
   simp only[Sem.run_pure];cases k with
   | int kk=>
     have h2:=Z4g (d:=dd) (k:=.int kk) (V:=V) (x:=x) (vx:=vx) (fun a kc u h1 h2=>?_) 0 h
     . rw[hf]at h2;cases h2;rfl
     . have hvx:cx=[vx]:=hvx;have h2:kc=[u]:=h2;simp only[Rep]at hx h1;rw[hx.1]at hvx;rw[h1.1]at h2;simp only[List.cons.injEq,and_true]at hvx h2;subst hvx h2;unfold eqM at hm;split at hm
       . rename_i hd1 hk1;rw[hd1]at htd;simp only[TDok]at htd;subst htd;simp[Instr.sameNow,eqV]
       . rename_i e;cases e
       . rename_i e;cases e
       . rename_i e;cases e
       . cases hm
   | str=>
     have h2:=Z4g (d:=dd) (k:=.str) (V:=V) (x:=x) (vx:=vx) (fun a kc u h1 h2=>?_) 0 h
     . rw[hf]at h2;cases h2;rfl
     . have hvx:cx=[vx]:=hvx;have h2:kc=[u]:=h2;simp only[Rep]at hx h1;rw[hx.1]at hvx;rw[h1.1]at h2;simp only[List.cons.injEq,and_true]at hvx h2;subst hvx h2;unfold eqM at hm;split at hm
       . rename_i e;cases e
       . rename_i e;cases e
       . rename_i hd1 _;rw[hd1]at htd;simp only[TDok]at htd;subst htd;simp[Instr.sameNow,eqV]
       . rename_i e;cases e
       . cases hm
   | pair a b=>
     have hvx:vx=.agg cx.toArray:=hvx;subst hvx;unfold eqM at hm;split at hm
     . rename_i e;cases e
     . rename_i e;cases e
     . rename_i e;cases e
     . rename_i fs _ _ hd1 _;rw[hd1]at htd;obtain⟨fields,rfl,hfs⟩:=htd;cases ms with
       | nil=>
         cases es with
         |nil=>simp only[Instr.findNow,Option.some.injEq]at hf;subst hf;rfl
         |cons _ _=>exact h.elim
       |cons m ms=>simp[Instr.findNow,Instr.sameNow]at hf
     . cases hm
   | _=>cases hk
theorem Z5m {k:Ty}{β:Type}{V:Nat->β->Value->Prop}{x:k.den}{q:Pos}:
   ∀ {ms:List MapEntry}{es:List (k.den×β)}(i:Nat),MFit own w k V q i ms es->
     (∃j m a b,mloc k es ms x i=some (i+j,m.val)/\ms[j]?=some m/\es[j]?=some (a,b)/\eqV k x a=true/\mfind k es x=some b/\midx k es x=some j/\V (i+j) b m.val/\∀z,mput k es x z=es.set j (x,z))\/
     (mloc k es ms x i=none/\mfind k es x=none/\midx k es x=none/\∀z,mput k es x z=es++[(x,z)])
 |[],[],i,_=>.inr ⟨rfl,rfl,rfl,fun _=>rfl⟩
 | m ::ms,(a,b)::es,i,⟨⟨kc,h1,h3,h4⟩,h⟩=>by
   simp only[mloc,mfind,mput,midx];cases he:eqV k x a
   . simp only[cond_false];rcases Z5m (x:=x) (i+1) h with⟨j,m',a',b',r1,r2,r3,r4,r5,r6,r7,r8⟩|⟨r1,r2,r3,r4⟩
     . exact .inl ⟨j+1,m',a',b',by rw[r1,show i+(j+1)=i+1+j by omega],by simpa using r2,by simpa using r3,r4,r5,by rw[r6];rfl,by rw[show i+(j+1)=i+1+j by omega];exact r7,fun z=>by rw[r8];rfl⟩
     . exact .inr ⟨r1,r2,by rw[r3];rfl,fun z=>by rw[r4];rfl⟩
   . exact .inl ⟨0,m,a,b,rfl,rfl,rfl,he,rfl,rfl,h4,fun z=>rfl⟩
 |[],_::_,_,h=>h.elim
 | _::_,[],_,h=>h.elim
theorem Zgl {P:Program}{T:TypeId}{j:TI}(hj:TIok P j T){t:Ty}{z:t.den}(ht:j.zero.t=t)(hz:z=cast (congrArg Ty.den ht) j.zero.x)(hsz:t.agg=j.agg)(w:World):
   ∃v cs,(zeroValue T).run P w=.ok v w/\litC t z=some cs/\IsVal t.agg cs v:=by
 subst ht;obtain⟨inf,v,cs,h1,h2,h3,h4,h5,h6⟩:=hj.info;refine⟨v,cs,by simp[zeroValue,typeInfo,h1,h4],by rw[hz];exact h5,by rw[hsz];exact h6⟩
theorem Zdq {P:Program}{w:World}{g:Nat}{en:Array MapEntry}{c:Nat}(h:w.heap[g]?=some (.map en c)):(getObj g).run P w=.ok (.map en c) w:=by simp[getObj,Sem.run,h]
theorem Z8y {tid:Nat}{k v:Ty}{es:Option (List (k.den×v.den))}{p:Pos}{vm:Value}(h:Rep own w (.mp tid k v) es p [vm]):
   k.flat=true/\v.mvOk=true/\∃en:Array MapEntry,((vm=.map none/\en=#[])\/∃g c,vm=.map (some g)/\own g=p.lb/\w.heap[g]?=some (.map en c))/\MFit own w k (VR own w v p) p 0 en.toList (es.getD []):=by
 simp only[Rep]at h;obtain⟨hk,hv,⟨h1,rfl⟩|⟨g,en,clock,l,rfl,h1,ho,hg,hl,hfit⟩⟩:=h
 . simp only[List.cons.injEq,and_true]at h1;exact⟨hk,hv,#[],.inl ⟨h1,rfl⟩,trivial⟩
 . simp only[List.cons.injEq,and_true]at h1;refine⟨hk,hv,en,.inr ⟨g,clock,h1,ho,hg⟩,.of (by simpa using hl) fun j m x h2 h3=>?_⟩;obtain⟨kc,vc,i1,i2,r1,r2⟩:=hfit j m x (by simpa using h2) h3;exact⟨kc,i1,r1,vc,i2,by rw[Nat.zero_add];exact r2⟩
theorem Zdr (hE:EnvOk E){T kT vT:Nat}(hT:E.P.underlying T=some (.map kT vT)){O:Obs}{m x:AV}{vm vx:Value}{ok:Bool}{K:AV->Option ρ}{r:ρ}(hO:Objs own w G O)(hm:AVv own w G m vm)(hx:AVv own w G x vx){P:Id->Prop}(hmm:m.men P)
   (h:Za0 E O kT vT m x ok K=some r):∃b v,K b=some r/\(Instr.lookup T vm vx ok).run E.P w=.ok v w/\AVv own w G b v/\b.men P:=by
 unfold Za0 at h;split at h
 . rename_i o u y;split at h
   . rename_i tid k v es hl;obtain⟨hk,h⟩:=Z0 h;obtain⟨ht,h⟩:=Z0 h;obtain⟨rfl,h⟩:=Z3 h;obtain⟨hn,hr⟩:=hO o _ hl;obtain⟨he,_⟩:=hm.one rfl rfl;simp only[List.cons.injEq,and_true]at he;obtain⟨hkf,hvf,en,hen,hF⟩:=Z8y hr;obtain⟨cx,⟨hpx,hrx⟩,hvx⟩:=hx.cells rfl;have hfind:=Z6r hE hk ht hrx hvx hF;have hchk:=Z3u hE (en.isEmpty) 9992 ht hrx hvx;have key:∀{zT:Ty}{z:zT.den}{j:TI},E.ti vT=some j->∀(hjt:j.zero.t=zT),z=cast (congrArg Ty.den hjt) j.zero.x->∃zv zc,litC zT z=some zc/\IsVal zT.agg zc zv/\
         (Instr.lookup T vm vx ok).run E.P w=.ok (match mloc u (es.getD []) en.toList y 0 with|some (_,a)=>(if ok then .tuple #[a,.bool true]else a)|none=>(if ok then .tuple #[zv,.bool false]else zv)) w:=by
       intro zT z j hj hjt hz;have hTI:=hE.ti vT j hj;obtain⟨zv,zc,hz1,hz2,hz3⟩:=Zgl hTI hjt hz (by rw[<-hjt];exact hTI.za) w;refine⟨zv,zc,hz2,hz3,?_⟩;rw[he];unfold Instr.lookup;rcases hen with⟨hv,rfl⟩|⟨g,clock,hv,ho,hg⟩
       . rw[hv];simp only[Sem.run_bind,run_underlying hT,Result.andThen_ok,Sem.run_pure,show(10000:Nat)=9992+8 from rfl,hchk,hfind];cases mloc u (es.getD []) (#[]:Array MapEntry).toList y 0 with
         |none=>simp only[Sem.run_bind,hz1,Result.andThen_ok,Sem.run_pure]
         |some a=>simp only[Sem.run_bind,Sem.run_pure,Result.andThen_ok]
       . rw[hv];simp only[Sem.run_bind,run_underlying hT,Result.andThen_ok,Zdq hg,Sem.run_pure,show(10000:Nat)=9992+8 from rfl,hchk,hfind];cases mloc u (es.getD []) en.toList y 0 with
         |none=>simp only[Sem.run_bind,hz1,Result.andThen_ok,Sem.run_pure]
         |some a=>simp only[Sem.run_bind,Sem.run_pure,Result.andThen_ok]
     rcases Z8 h with⟨hvf,h⟩|⟨_,h⟩
     . unfold tiK at h;split at h
       . rename_i j hj;obtain⟨hjt,h⟩:=Z3 h;have h:∃b,(b=.tp (.v v ((mfind u (es.getD []) y).getD (cast (congrArg Ty.den hjt) j.zero.x))) (.tp (.v .bool (mfind u (es.getD []) y).isSome) .tn)/\ok=true\/b=.v v ((mfind u (es.getD []) y).getD (cast (congrArg Ty.den hjt) j.zero.x))/\ok=false)/\K b=some r:=by
           cases ok
           . exact⟨_,.inr ⟨rfl,rfl⟩,h⟩
           . exact⟨_,.inl ⟨rfl,rfl⟩,h⟩
         obtain⟨b,hb,h⟩:=h;obtain⟨zv,zc,hz2,hz3,hrun⟩:=key hj hjt rfl;have hS:∃u' vc,(match mloc u (es.getD []) en.toList y 0 with|some (_,a)=>(if ok then .tuple #[a,.bool true]else a)|none=>(if ok then .tuple #[zv,.bool false]else zv))=(if ok then .tuple #[u',.bool (mfind u (es.getD []) y).isSome]else u')/\
             IsVal v.agg vc u'/\Rep own w v ((mfind u (es.getD []) y).getD (cast (congrArg Ty.den hjt) j.zero.x)) ⟨[],[],true⟩ vc:=by
           rcases Z5m (x:=y) 0 hF with⟨j',m',a',b',r1,r2,r3,r4,r5,r6,⟨vc,r7,r8⟩,_⟩|⟨r1,r2,_,_⟩
           . exact⟨m'.val,vc,by rw[r1,r5];rfl,r7,by rw[r5];exact Rep.plain (Sealed.refl _ _) _ (Z12 hvf) r8⟩
           . exact⟨zv,zc,by rw[r1,r2];rfl,hz3,by rw[r2];exact Zr hz2⟩
         obtain⟨u',vc,hu,hvc,hrv⟩:=hS;have hav:AVv own w G (.v v ((mfind u (es.getD []) y).getD (cast (congrArg Ty.den hjt) j.zero.x))) u':=⟨vc,⟨Z12 hvf,hrv⟩,hvc⟩;rw[hu]at hrun;rcases hb with⟨rfl,rfl⟩|⟨rfl,rfl⟩
         . exact⟨_,_,h,hrun,⟨u',[.bool _],rfl,hav,⟨.bool _,[],rfl,.mkBool,rfl⟩⟩,trivial,trivial,trivial⟩
         . exact⟨_,_,h,hrun,hav,trivial⟩
       . cases h
     . split at h
       . rename_i t;split at h
         . cases h
         . rename_i hok;unfold tiK at h;split at h
           . rename_i j hj;obtain⟨hjt,h⟩:=Z3 h;obtain⟨zv,zc,hz2,hz3,hrun⟩:=key hj hjt rfl;rcases Z5m (x:=y) 0 hF with⟨j',m',a',b',r1,r2,r3,r4,r5,r6,⟨vc,r7,r8⟩,_⟩|⟨r1,r2,r3,_⟩
             . simp only[cast_eq,r6,Option.isSome_some,cond_true,Option.bind_some]at h;rw[r1]at hrun;refine⟨_,_,h,hrun,?_,hmm⟩;rcases hen with⟨hv,rfl⟩|⟨g,clock,hv,ho,hg⟩
               . simp at r2
               simp only[Rep]at r8;obtain⟨g2,cur,T2,rfl,_⟩:=r8;have r7:[Value.pointer (some ⟨g2,0,none⟩)]=[m'.val]:=r7;simp only[List.cons.injEq,and_true]at r7;exact .of (cs:=[_]) ⟨by rw[hn];rfl,g,en,clock,m',g2,hv,hg,by simpa using r2,r7.symm,rfl⟩ (by rw[<-r7];rfl)
             . simp only[cast_eq,r3,Option.isSome_none,cond_false]at h;rw[r1]at hrun;refine⟨_,_,h,hrun,⟨zc,⟨rfl,Zr hz2⟩,hz3⟩,trivial⟩
           . cases h
       . cases h
   . cases h
 . cases h
theorem Zf9 {g:Bool}{cs:List Value}{u v:Value}(h1:IsVal g cs u)(h2:IsVal g cs v):u=v:=by
 cases g
 . have h1:cs=[u]:=h1;have h2:cs=[v]:=h2;rw[h1]at h2;simpa using h2
 . have h1:u=_:=h1;have h2:v=_:=h2;rw[h1,h2]
end Go.Pv
namespace Go.Pv
open Go
variable {own own':Own}{w w':World}{G G':Gs}{ρ:Type}{E:Env}
def EvR(own:Own)(w:World)(G:Gs)(P:Id->Prop)(o:Oper)(ev:Operand->AV)(V:Operand->Value):Prop:=
 (∀x∈o.op.operands.toList,AVv own w G (ev x) (V x)/\(ev x).men P)/\∀v,V (.const v)=v
theorem Z4h {x:Operand}(h:Z1q x=true):x=.const (.slice none 0 0):=by
 unfold Z1q at h;split at h
 . rfl
 . cases h
theorem Z81 {P:Id->Prop}:∀{l:List Operand}{ev:Operand->AV}{V:Operand->Value}{K:AV->Option ρ}{r:ρ},(∀x∈l,AVv own w G (ev x) (V x)/\(ev x).men P)->Z5x (l.map ev) K=some r->
   ∃a,K a=some r/\AVc own w G a (l.map V)/\a.men P
 |[],ev,V,K,r,hl,h=>⟨_,h,⟨rfl,rfl⟩,trivial⟩
 | x::l,ev,V,K,r,hl,h=>by
   simp only[List.map_cons,Z5x]at h;obtain⟨h1,h⟩:=Z0 h;obtain⟨h2,h⟩:=Z0 h;obtain⟨h3,h⟩:=Zs h;obtain⟨a,h,ha,hm⟩:=Z81 (fun y hy=>hl y (List.mem_cons_of_mem _ hy)) h;rw[Zf]at h;have hx:=hl x List.mem_cons_self;exact⟨_,h,.mk (hx.1.one (Z7a h1) h3) ha,.mk hx.2 hm⟩
theorem Z5 {T:Nat}{K:TI->Option ρ}{r:ρ}(h:tiK E T K=some r):∃i,E.ti T=some i/\K i=some r:=by
 unfold tiK at h;split at h
 . exact⟨_,by assumption,h⟩
 . cases h
theorem Zds(hE:EnvOk E){S D:Nat}{x:AV}{vx:Value}{K:AV->Option ρ}{r:ρ}(hx:AVv own w G x vx)(h:Za2 E S D x K=some r):
   ∃t z v,K (.v t z)=some r/\(convert S D vx).run E.P w=.ok v w/\AVv own w G (.v t z) v:=by
 unfold Za2 at h;obtain⟨i,hi,h1⟩:=Z5 h;clear h;obtain⟨j,hj,h⟩:=Z5 h1;clear h1;obtain⟨di,hdi,hki,_⟩:=(hE.ti S i hi).und;obtain⟨dj,hdj,hkj,_⟩:=(hE.ti D j hj).und;split at h
 . rename_i k0 k' k n e1 e2;obtain⟨rfl,hwx⟩:=hx.int;rw[e1]at hki;rw[e2]at hkj;simp only[TDok]at hki hkj;subst hki hkj;refine⟨_,_,_,h,?_,.mkInt (wf_wrap _ _)⟩;simp[convert,run_underlying hdi,run_underlying hdj,Conv.intToInt]
 . rename_i s e1 e2;obtain⟨rfl,hwx⟩:=hx.str;rw[e1]at hki;rw[e2]at hkj;simp only[TDok]at hki hkj;subst hki hkj;refine⟨_,_,_,h,?_,.mkStr hwx⟩;simp[convert,run_underlying hdi,run_underlying hdj]
 . cases h
theorem Zdt (hE:EnvOk E){S D:Nat}{O:Obs}{x:AV}{vx:Value}{K:AV->Option ρ}{r:ρ}(hO:Objs own w G O)(hx:AVv own w G x vx)(h:Za3 E S D O x K=some r):
   ∃t z v,K (.v t z)=some r/\(convert S D vx).run E.P w=.ok v w/\AVv own w G (.v t z) v:=by
 unfold Za3 at h;split at h
 . rename_i o;obtain⟨i,hi,h1⟩:=Z5 h;clear h;obtain⟨j,hj,h⟩:=Z5 h1;clear h1;obtain⟨di,hdi,hki,_⟩:=(hE.ti S i hi).und;obtain⟨dj,hdj,hkj,_⟩:=(hE.ti D j hj).und;split at h
   . rename_i e e1 e2;obtain⟨q,hq,h1⟩:=Z5 h;clear h;obtain⟨dq,hdq,hkq,_⟩:=(hE.ti e q hq).und;split at h1
     . rename_i e3;split at h1
       . rename_i tid xs hl;rw[e1]at hki;rw[e2]at hkj;rw[e3]at hkq;simp only[TDok]at hki hkj hkq;subst hki hkj hkq;obtain⟨hsz,hn,hr⟩:=hO o _ hl;obtain⟨hv,_⟩:=hx.one rfl rfl;simp only[List.cons.injEq,and_true]at hv;subst hv;simp only[Rep,List.cons.injEq,and_true]at hr;rcases hr with⟨h2,h3⟩|⟨g,cap,cur,h2,ho,hg,hc1,hc2,hc3,hel⟩
         . rw[h2];obtain rfl:xs=[]:=List.length_eq_zero_iff.1 h3;exact⟨_,_,_,h1,run_convert_bytes_nil w S e hdi hdq 0 0 D hdj,.mkStr (Nat.zero_le _)⟩
         . rw[h2];refine⟨_,_,_,h1,run_convert_bytes_arg w S e hdi hdq g 0 xs.length cap xs rfl (fun i hi=>?_) D hdj,.mkStr ?_⟩
           . have h4:=(hel i xs[i] (List.getElem?_eq_getElem hi)).1;have h7:=cell_row (o:=0) hg i;rw[show(⟨g,0,none⟩:Addr).add i=⟨g,0+i,none⟩ by unfold Addr.add;split<;>simp_all]at h7;rw[h7,List.getD_eq_getElem?_getD,List.getElem?_eq_getElem hi];have h5:=congrArg (fun l=>l[0]?) h4;simp only[List.getElem?_take,List.getElem?_drop]at h5;rw[if_pos (by decide)]at h5;have e6:i*(Ty.int IntKind.u8).size+0=0+i:=by show i*1+0=0+i;omega
             rw[e6]at h5;simpa using h5
           . show((xs.map fun n=>UInt8.ofNat n.toNat).toArray).size<=maxLen
             simp only[List.size_toArray,List.length_map];omega
       . cases h1
     . cases h1
   . cases h
 . exact Zds hE hx h
theorem Zhw {k:IntKind}{x y:Int}(hx:(Lit.int k x).wf=true)(hy:(Lit.int k y).wf=true):(Lit.int k (max x y)).wf=true:=by
 rcases Int.le_total x y with h|h
 . rw[Int.max_eq_right h];exact hy
 . rw[Int.max_eq_left h];exact hx
theorem Zhx {k:IntKind}{x y:Int}(hx:(Lit.int k x).wf=true)(hy:(Lit.int k y).wf=true):(Lit.int k (min x y)).wf=true:=by
 rcases Int.le_total x y with h|h
 . rw[Int.min_eq_left h];exact hx
 . rw[Int.min_eq_right h];exact hy
theorem Zac {T:Nat}{d:TypeDesc}(hd:E.P.underlying T=some d)(op:BinOp)(x y:Operand){vx vy:Value}{b:Bool}(hop:op=.eql\/op=.neq)
   (h:(∃k e,d=.map k e/\vy=.map none/\∃m,vx=.map m/\b=m.isNone)\/(∃e,d=.pointer e/\vy=.pointer none/\∃m,vx=.pointer m/\b=m.isNone)):
   (eqGuard op T x y vx vy>>=fun _=>binOp op T vx vy).run E.P w=.ok (.bool (match op with|.eql=>b| _=>!b)) w:=by
 have hg:∀m n,(eqGuard op T x y (.map m) (.map n)).run E.P w=.ok () w:=fun m n=>by unfold eqGuard;rcases hop with rfl|rfl<;>rfl
 have hg2:∀m n,(eqGuard op T x y (.pointer m) (.pointer n)).run E.P w=.ok () w:=fun m n=>by unfold eqGuard;rcases hop with rfl|rfl<;>rfl
 have he:∀(n:Nat)(vx vy:Value),(Op.equal T vx vy).run E.P w=(Op.equalIn (9999+1) T vx vy).run E.P w:=fun _ _ _=>rfl
 rcases h with⟨k,e,rfl,rfl,m,rfl,rfl⟩|⟨e,rfl,rfl,m,rfl,rfl⟩
 . have h1:(Op.equal T (.map m) (.map none)).run E.P w=.ok m.isNone w:=by
     rw[he 0];generalize 9999=n;unfold Op.equalIn;rw[Sem.run_bind,run_underlying hd,Result.andThen_ok];cases m<;>rfl
   rw[Sem.run_bind,hg,Result.andThen_ok];rcases hop with rfl|rfl
   . show(do pure (.bool (<-Op.equal T (.map m) (.map none))):Sem Value).run E.P w=_
     rw[Sem.run_bind,h1];rfl
   . show(do pure (.bool (!(<-Op.equal T (.map m) (.map none)))):Sem Value).run E.P w=_
     rw[Sem.run_bind,h1];rfl
 . have h1:(Op.equal T (.pointer m) (.pointer none)).run E.P w=.ok m.isNone w:=by
     rw[he 0];generalize 9999=n;unfold Op.equalIn;rw[Sem.run_bind,run_underlying hd,Result.andThen_ok];cases m<;>rfl
   rw[Sem.run_bind,hg2,Result.andThen_ok];rcases hop with rfl|rfl
   . show(do pure (.bool (<-Op.equal T (.pointer m) (.pointer none))):Sem Value).run E.P w=_
     rw[Sem.run_bind,h1];rfl
   . show(do pure (.bool (!(<-Op.equal T (.pointer m) (.pointer none)))):Sem Value).run E.P w=_
     rw[Sem.run_bind,h1];rfl
theorem Zfa {T:Nat}{i:TI}(hE:EnvOk E)(hi:E.ti T=some i){O:Obs}{y:Operand}{a:AV}{va:Value}{V:Operand->Value}{b:Bool}(hO:Objs own w G O)(hc:∀v,V (.const v)=v)(ha:AVv own w G a va)(h:nilB i.d y O a=some b):
   ∃d,E.P.underlying T=some d/\((∃k e,d=.map k e/\V y=.map none/\∃m,va=.map m/\b=m.isNone)\/(∃e,d=.pointer e/\V y=.pointer none/\∃m,va=.pointer m/\b=m.isNone)):=by
 obtain⟨d,hd,hk,_⟩:=(hE.ti T i hi).und;refine⟨d,hd,?_⟩;unfold nilB at h;cases hq:i.d with
 | map k e=>
   rw[hq]at h hk;simp only[TDok]at hk;dsimp only at h;split at h
   . split at h
     . rename_i o;split at h
       . rename_i tid kk v es hl;cases h;obtain⟨_,hr⟩:=hO o _ hl;obtain⟨he,_⟩:=ha.one rfl rfl;simp only[List.cons.injEq,and_true]at he;simp only[Rep,List.cons.injEq,and_true]at hr;obtain⟨_,_,⟨hv,rfl⟩|⟨g,en,clock,l,rfl,hv,_⟩⟩:=hr
         . exact .inl ⟨k,e,hk,hc _,none,he.trans hv,rfl⟩
         . exact .inl ⟨k,e,hk,hc _,some g,he.trans hv,rfl⟩
       . cases h
     . cases h
   . cases h
 | ptr e=>
   rw[hq]at h hk;simp only[TDok]at hk;dsimp only at h;split at h
   . split at h
     . cases h;obtain⟨_,he⟩:=ha.one rfl rfl;simp only[Rep,List.cons.injEq,and_true]at he;exact .inr ⟨e,hk,hc _,none,he,rfl⟩
     . cases h;obtain⟨_,g,en,c,m,g2,_,_,_,_,he⟩:=ha.one rfl rfl;simp only[List.cons.injEq,and_true]at he;exact .inr ⟨e,hk,hc _,_,he,rfl⟩
     . cases h
   . cases h
 | _=>rw[hq]at h;cases h
theorem Zck(hE:EnvOk E){op:BinOp}{T:Nat}{O:Obs}(x:Operand){y:Operand}{a:AV}{va:Value}{V:Operand->Value}{K:AV->Option ρ}{r:ρ}(hO:Objs own w G O)(hc:∀v,V (.const v)=v)(ha:AVv own w G a va)(h:Z75 E op T y O a K=some r):
   ∃b:Bool,K (.v .bool b)=some r/\(eqGuard op T x y va (V y)>>=fun _=>binOp op T va (V y)).run E.P w=.ok (.bool b) w/\AVv own w G (.v .bool b) (.bool b):=by
 unfold Z75 at h;obtain⟨i,hi,h⟩:=Z5 h;cases hb:nilB i.d y O a with
 |none=>rw[hb]at h;cases h
 | some b=>
   rw[hb]at h;obtain⟨d,hd,hq⟩:=Zfa hE hi hO hc ha hb;cases op with
   |eql=>exact⟨b,h,Zac hd .eql x y (.inl rfl) hq,.mkBool⟩
   |neq=>exact⟨!b,h,Zac hd .neq x y (.inr rfl) hq,.mkBool⟩
   | _=>cases h
theorem Z8z(hE:EnvOk E){o:Oper}{ev:Operand->AV}{V:Operand->Value}{O:Obs}{K:AV->Option ρ}{r:ρ}{P:Id->Prop}(hO:Objs own w G O)(hb:∀o c,look O o=some (.box c)->c.men P)(hev:EvR own w G P o ev V)
   (h:opQ E o ev O K=some r):∃a v,K a=some r/\(execOp V o).run E.P w=.ok (.value v) w/\AVv own w G a v/\a.men P:=by
 obtain⟨hx,hc⟩:=hev;unfold opQ at h;unfold execOp;split at h
 ·
   rename_i x e;simp only[e,Op.operands]at hx⊢;have:=hx x (by simp);exact⟨_,_,h,rfl,this.1,this.2⟩
 . rename_i x e;simp only[e,Op.operands]at hx⊢;have:=hx x (by simp);exact⟨_,_,h,rfl,this.1,this.2⟩
 ·
   rename_i c a b e;simp only[e,Op.operands]at hx⊢;have h1:=hx c (by simp);have h2:=hx a (by simp);have h3:=hx b (by simp);split at h
   . rename_i cb hcb;rw[hcb]at h1;have hvc:=h1.1.bool;simp only[hvc,asBool,Sem.run_bind,Sem.run_pure,Result.andThen_ok];cases cb
     . exact⟨_,_,h,rfl,h3.1,h3.2⟩
     . exact⟨_,_,h,rfl,h2.1,h2.2⟩
   . cases h
 ·
   rename_i T a e;simp only[e,Op.operands]at hx⊢;have h1:=hx a (by simp);obtain⟨i,hi,h⟩:=Z5 h;obtain⟨b,v,h,hr,hv,hm⟩:=Zdn hE hi hO hb h1.1 h1.2 h;exact⟨b,v,h,by simp only[Sem.run_bind,hr,Result.andThen_ok,Sem.run_pure],hv,hm⟩
 ·
   rename_i x e;simp only[e,Op.operands]at hx⊢;have h1:=hx x (by simp);split at h
   . rename_i p1 p2 p3 he;rw[he]at h1;obtain⟨g,hv,hq⟩:=h1.1.one rfl rfl;simp only[List.cons.injEq,and_true]at hq;refine⟨_,V x,h,?_,h1.1,h1.2⟩;rw[hq];simp
   . rename_i p1 p2 p3 p4 he;rw[he]at h1;obtain⟨A,m,c,hv,hi,hq⟩:=h1.1.one rfl rfl;simp only[List.cons.injEq,and_true]at hq;refine⟨_,V x,h,?_,h1.1,h1.2⟩;rw[hq];simp
   . rename_i p1 p2 he;rw[he]at h1;obtain⟨A,c,hv,hq⟩:=h1.1.one rfl rfl;simp only[List.cons.injEq,and_true]at hq;refine⟨_,V x,h,?_,h1.1,h1.2⟩;rw[hq];simp
   . rename_i p1 p2 p3 p4 p5 p6 he;rw[he]at h1;obtain⟨_,A,m,c,A2,m2,c2,_,_,_,_,hq⟩:=h1.1.one rfl rfl;simp only[List.cons.injEq,and_true]at hq;refine⟨_,V x,h,?_,h1.1,h1.2⟩;rw[hq];simp
   . rename_i p1 p2 p3 p4 he;rw[he]at h1;obtain⟨_,g,en,c,m,g2,_,_,_,_,hq⟩:=h1.1.one rfl rfl;simp only[List.cons.injEq,and_true]at hq;refine⟨_,V x,h,?_,h1.1,h1.2⟩;rw[hq];simp
   . rename_i t y he;rw[he]at h1;obtain⟨hp,hr⟩:=h1.1.one rfl rfl;simp only[Rep]at hr;obtain⟨_,A,ys,hq,_⟩:=hr;simp only[List.cons.injEq,and_true]at hq;refine⟨_,V x,h,?_,h1.1,h1.2⟩;rw[hq];simp
   . cases h
 ·
   rename_i op T x y yT e;simp only[e,Op.operands]at hx⊢;have h1:=hx x (by simp);have h2:=hx y (by simp);rcases Z8 h with⟨_,h⟩|⟨_,h⟩
   . obtain⟨b,h,hr,hv⟩:=Zck hE x hO hc h1.1 h;exact⟨_,_,h,by rw[Sem.run_bind,hr];rfl,hv,trivial⟩
   . obtain⟨t,z,v,h,hr,hv⟩:=Zf6 hE x y h1.1 h2.1 h;exact⟨_,v,h,by rw[Sem.run_bind,hr];rfl,hv,trivial⟩
 ·
   rename_i op T x e;simp only[e,Op.operands]at hx⊢;have h1:=hx x (by simp);obtain⟨t,z,v,h,hr,hv⟩:=Zgg E.P h1.1 h;exact⟨_,v,h,by rw[Sem.run_bind,hr];rfl,hv,trivial⟩
 ·
   rename_i S D x e;simp only[e,Op.operands]at hx⊢;have h1:=hx x (by simp);obtain⟨t,z,v,h,hr,hv⟩:=Zdt hE hO h1.1 h;exact⟨_,v,h,by rw[Sem.run_bind,hr];rfl,hv,trivial⟩
 ·
   rename_i T x lo hi e;simp only[e,Op.operands]at hx⊢;have h1:=hx x (by simp);obtain⟨b,v,h,hr,hv,hm⟩:=Zch (vl:=lo.map V) (vh:=hi.map V) hE hO h1.1 h1.2 (fun a ha=>by
     cases lo with
     |none=>cases ha
     | some y=>
       simp only[Option.map_some,Option.some.injEq]at ha;subst ha;exact⟨V y,rfl,(hx y (by simp)).1⟩) (fun e=>by cases lo with|none=>rfl|some y=>cases e) (fun a ha=>by
     cases hi with
     |none=>cases ha
     | some y=>
       simp only[Option.map_some,Option.some.injEq]at ha;subst ha;exact⟨V y,rfl,(hx y (by simp)).1⟩) (fun e=>by cases hi with|none=>rfl|some y=>cases e) h
   exact⟨b,v,h,by rw[Sem.run_bind,Option.map_none,hr];rfl,hv,hm⟩
 ·
   rename_i S x f e;simp only[e,Op.operands]at hx⊢;have h1:=hx x (by simp);obtain⟨b,v,h,hr,hv,hm⟩:=Z9w hE hO h1.1 h1.2 h;exact⟨b,v,h,by rw[Sem.run_bind,hr];rfl,hv,hm⟩
 ·
   rename_i S x f e;simp only[e,Op.operands]at hx⊢;have h1:=hx x (by simp);obtain⟨b,v,h,hr,hv,hm⟩:=Zf5 hE h1.1 h1.2 h;exact⟨b,v,h,by rw[Sem.run_bind,hr];rfl,hv,hm⟩
 ·
   rename_i T x i e;simp only[e,Op.operands]at hx⊢;have h1:=hx x (by simp);have h2:=hx i (by simp);obtain⟨t,ht,h⟩:=Z5 h
   . split at h
     . obtain⟨el,j,hT,hj,hJ,h⟩:=Zv hE h;obtain⟨b,v,h,hr,hv,hm⟩:=Z9v hT hJ hO h1.1 h2.1 h1.2 h;exact⟨b,v,h,by rw[Sem.run_bind,hr];rfl,hv,hm⟩
     . rename_i n el hd;obtain⟨d,hdd,hk,_⟩:=(hE.ti T t ht).und;rw[hd]at hk;simp only[TDok]at hk;subst hk;obtain⟨j,hj,h⟩:=Z5 h
       . obtain⟨b,v,h,hr,hv,hm⟩:=Zbj hdd (hE.ti el j hj) hO h1.1 h2.1 h1.2 h;exact⟨b,v,h,by rw[Sem.run_bind,hr];rfl,hv,hm⟩
     . cases h
 ·
   rename_i T x i e;simp only[e,Op.operands]at hx⊢;have h1:=hx x (by simp);have h2:=hx i (by simp);obtain⟨t,ht,h⟩:=Z5 h
   . split at h
     . rename_i hd;obtain⟨z,v,h,hr,hv⟩:=Zf8 hE (T:=T) (by unfold Zc5;rw[ht];simp only[hd]) h1.1 h2.1 h;exact⟨_,v,h,by rw[Sem.run_bind,hr];rfl,hv,trivial⟩
     . rename_i n el hd;obtain⟨d,hdd,hk,_⟩:=(hE.ti T t ht).und;rw[hd]at hk;simp only[TDok]at hk;subst hk;obtain⟨j,hj,h⟩:=Z5 h
       . obtain⟨b,v,h,hr,hv,hm⟩:=Zbk (P:=P) hdd (hE.ti el j hj) h1.1 h2.1 h;exact⟨b,v,h,by rw[Sem.run_bind,hr];rfl,hv,hm⟩
     . cases h
 ·
   rename_i T m x ok e;simp only[e,Op.operands]at hx⊢;have h1:=hx m (by simp);have h2:=hx x (by simp);obtain⟨kT,vT,hT,h⟩:=Z61 hE h;obtain⟨b,v,h,hr,hv,hm⟩:=Zdr (P:=P) hE hT hO h1.1 h2.1 h1.2 h;exact⟨b,v,h,by rw[Sem.run_bind,hr];rfl,hv,hm⟩
 ·
   rename_i f first caps e
   simp only[e,Op.operands]at hx⊢;split at h
   . rename_i hf;have hf:first=#[]:=by apply Array.ext';simpa using hf
     subst hf;obtain⟨a,h,ha,hm⟩:=Z81 (P:=P) (V:=V) (fun y hy=>hx y (by simpa using hy)) h;refine⟨_,_,h,?_,⟨_,⟨_,rfl,ha⟩,rfl⟩,hm⟩;simp[Instr.makeFunc];rw[<-Array.toList_map]
   . cases h
 ·
   rename_i x i e;simp only[e,Op.operands]at hx⊢;have h1:=hx x (by simp);obtain⟨b,v,h,⟨vs,hvs,hi⟩,hv,hm⟩:=Z8v h1.1 h1.2 h;refine⟨b,v,h,?_,hv,hm⟩;rw[hvs];simp[Instr.extract,hi]
 ·
   rename_i args at' e;simp only[e,Op.operands,Call.operands]at hx⊢;split at h
   . rename_i x T l hargs hat;have hargs:args=#[x]:=by apply Array.ext';simpa using hargs
     have hat0:at'[0]?=some T:=by
       have:at'.toList[0]?=some T:=by rw[hat];rfl
       simpa using this
     subst hargs;obtain⟨t,ht,h⟩:=Z5 h
     . rcases Z8 h with⟨hn,h⟩|⟨hn,h⟩
       . have:=Z4h hn;subst this;split at h
         . rename_i el hd;obtain⟨d,hdd,hk,_⟩:=(hE.ti T t ht).und;rw[hd]at hk;simp only[TDok]at hk;have:=Z6n (P:=E.P) hdd hat0 o.type (.slice none 0 0) w 0 (.inl ⟨el,none,0,hk,rfl,by omega⟩);refine⟨_,_,h,?_,.mkInt (by decide),trivial⟩;simp[resolve,invoke,builtin,hc,this]
         . cases h
       . have h1:=hx x (by simp);obtain⟨n,h,hw,hr⟩:=Zf4 hE ht hO h1.1 h;have:=hr at' o.type hat0;refine⟨_,_,h,?_,.mkInt hw,trivial⟩;simp[resolve,invoke,builtin,this]
   . cases h
 ·
   rename_i args at' e;simp only[e,Op.operands,Call.operands]at hx⊢;split at h
   . rename_i k x k' y hargs;obtain⟨a,b,rfl⟩:∃a b,args=#[a,b]:=by
       obtain⟨l⟩:=args;have hl:l.length=2:=by simpa using congrArg List.length hargs
       match l,hl with
       |[a,b],_=>exact⟨a,b,rfl⟩
     simp only[List.map_cons,List.map_nil,List.cons.injEq,and_true]at hargs;obtain⟨hk,h⟩:=Z0 h;have hk:=Z6l hk;subst hk;have h1:=hx a (by simp);have h2:=hx b (by simp);rw[hargs.1]at h1;rw[hargs.2]at h2;obtain⟨e1,w1⟩:=h1.1.int;obtain⟨e2,w2⟩:=h2.1.int;refine⟨_,_,h,?_,.mkInt (Zhw w1 w2),trivial⟩;simp only[resolve,invoke,builtin,List.map_toArray,List.map_cons,List.map_nil,e1,e2,Builtin.max_,List.foldlM_cons,List.foldlM_nil,Builtin.max2,Sem.run_bind,Sem.run_pure,Result.andThen_ok]
     congr 3
     rcases Int.lt_or_le x y with hlt|hle
     . rw[if_pos (by omega),Int.max_eq_right (by omega)]
     . rw[if_neg (by omega),Int.max_eq_left (by omega)]
   . cases h
 ·
   rename_i args at' e;simp only[e,Op.operands,Call.operands]at hx⊢;split at h
   . rename_i k x k' y hargs;obtain⟨a,b,rfl⟩:∃a b,args=#[a,b]:=by
       obtain⟨l⟩:=args;have hl:l.length=2:=by simpa using congrArg List.length hargs
       match l,hl with
       |[a,b],_=>exact⟨a,b,rfl⟩
     simp only[List.map_cons,List.map_nil,List.cons.injEq,and_true]at hargs;obtain⟨hk,h⟩:=Z0 h;have hk:=Z6l hk;subst hk;have h1:=hx a (by simp);have h2:=hx b (by simp);rw[hargs.1]at h1;rw[hargs.2]at h2;obtain⟨e1,w1⟩:=h1.1.int;obtain⟨e2,w2⟩:=h2.1.int;refine⟨_,_,h,?_,.mkInt (Zhx w1 w2),trivial⟩;simp only[resolve,invoke,builtin,List.map_toArray,List.map_cons,List.map_nil,e1,e2,Builtin.min_,List.foldlM_cons,List.foldlM_nil,Builtin.min2,Sem.run_bind,Sem.run_pure,Result.andThen_ok]
     congr 3
     rcases Int.lt_or_le y x with hlt|hle
     . rw[if_pos (by omega),Int.min_eq_right (by omega)]
     . rw[if_neg (by omega),Int.min_eq_left (by omega)]
   . cases h
 . cases h
end Go.Pv
namespace Go.Pv
open Go
variable {own own' own1 own2:Own}{w w' w1 w2:World}{G G' G1 G2:Gs}{ρ:Type}{E:Env}[Base]
structure Mem (own:Own) (w:World) (G:Gs) (O:Obs) (P:Id->Prop):Prop where
 objs:Objs own w G O
 box:∀o c,look O o=some (.box c)->c.men P
 live:∀o,has O o=true->P o
 bound:∀g,w.heap.size<=g->own g=.out
 base:Base.B own w
theorem Post.mem {O O':Obs}{b:Bool}{P:Id->Prop}(h:Post own own' w w' G G' O O' b)(hM:Mem own w G O P):Mem own' w' G' O' fun i=>P i\/has O' i=true:=
 ⟨h.objs,h.box P hM.box,fun _ ho=>.inr ho,h.bound,Base.keep hM.base h.sealed⟩
theorem ObR.stay {P:Id->Prop}{o:Id}{b:Ob}(hs:Sealed own w own' w')(hk:∀g s,own g=.ob o s->own' g=.ob o s/\w'.heap[g]?=w.heap[g]?)(h:ObR own w G o b)(he:G' o=G o)(hm:∀a,b=.box a->a.men P)
   (hG:∀i,P i->G' i=G i):ObR own' w' G' o b:=by
 cases b with
 | box a=>
   obtain⟨hn,g,cur,T,h1,h2,h3,h4⟩:=h;have hgg:=hk g [] h2;exact⟨⟨by rw[he];exact hn.1,hn.2⟩,g,cur,T,by rw[he];exact h1,hgg.1,hgg.2.trans h3,AVc.keepOk hs hG hn.2 (hm a rfl) h4⟩
 | list tid e xs=>
   obtain⟨h1,h2,h3⟩:=h;refine⟨by rw[he];exact h1,by rw[he];exact h2,?_⟩;rw[he];exact Rep.move hs (Mv.ob fun k r hk'=>⟨by have:=(hk k r hk').1;simpa using this,(hk k r hk').2⟩) h3
 | map tid k v es=>
   obtain⟨h1,h2⟩:=h;refine⟨by rw[he];exact h1,?_⟩;rw[he];exact Rep.move hs (Mv.obMap fun k r hk'=>⟨by have:=(hk k r hk').1;simpa using this,(hk k r hk').2⟩) h2
theorem Post.rest {O O1:Obs}{P:Id->Prop}(hM:Mem own w G O P)(hsub:∀o b,look O1 o=some b->look O o=some b)(hs:Sealed own w own1 w1)(hk:∀g o s,own g=.ob o s->has O1 o=true->own1 g=.ob o s/\w1.heap[g]?=w.heap[g]?)
   (houts:∀g,g<w.heap.size->own g=.out->own1 g=.out/\w1.heap[g]?=w.heap[g]?) (hbd:∀g,w1.heap.size<=g->own1 g=.out) (hsz:w.heap.size<=w1.heap.size) (hos:w1.os=w.os) (htp:w1.tape=w.tape) (hout:w1.output=w.output):
   Post own own1 w w1 G G O O1 true where
 objs:=fun o b hb=>(hM.objs o b (hsub o b hb)).stay (P:=fun _=>True) hs (fun g s hg=>hk g o s hg (Z1 hb)) rfl (fun a _=>vwK_some.AV.men.all a) (fun _ _=>rfl)
 stay:=fun h=>by cases h
 same:=fun _ _ _=>rfl
 nest:=fun h=>by cases h
 box:=fun P hb o c hc=>(hb o c (hsub o _ hc)).mono fun i hi=>.inl hi
 sealed:=hs
 outs:=houts
 bound:=hbd
 size:=hsz
 os:=hos
 tape:=htp
 output:=hout
theorem Post.thenF {O O1 O2:Obs}{b:Bool}(h1:Post own own1 w w1 G G1 O O1 b)(h2:Post own1 own2 w1 w2 G1 G2 O1 O2 false)(hre:∀o,has O o=true->has O2 o=true->has O1 o=true):Post own own2 w w2 G G2 O O2 b where
 objs:=h2.objs
 stay:=fun hb o ho=>h2.stay rfl o (h1.stay hb o ho)
 same:=fun o ho ho2=>(h2.same o (hre o ho ho2) ho2).trans (h1.same o ho (hre o ho ho2))
 nest:=fun hb o ho hn k hv=>by
   have ho1:=h1.stay hb o ho;have e:=h1.same o ho ho1;exact(h2.nest rfl o ho1 (by rw[e];exact hn) k (by rw[e];exact hv)).trans (h1.nest hb o ho hn k hv)
 box:=fun P hb o c hc=>(h2.box _ (h1.box P hb) o c hc).mono fun i hi=>by
   rcases hi with(hi|hi)|hi
   . exact .inl hi
   . exact .inr (h2.stay rfl i hi)
   . exact .inr hi
 sealed:=fun g hg=>⟨(h2.sealed g (h1.sealed g hg).1).1,(h2.sealed g (h1.sealed g hg).1).2.trans (h1.sealed g hg).2⟩
 outs:=fun g hl hg=>by
   have h3:=h1.outs g hl hg;have h4:=h2.outs g (Nat.lt_of_lt_of_le hl h1.size) h3.1;exact⟨h4.1,h4.2.trans h3.2⟩
 bound:=h2.bound
 size:=Nat.le_trans h1.size h2.size
 os:=h2.os.trans h1.os
 tape:=h2.tape.trans h1.tape
 output:=h2.output.trans h1.output
def sealOwn(own:Own)(r:Id):Own:=fun g=>match own g with
 |.ob j s=>nif (pre r j) .sh (.ob j s)
 |l=>l
theorem Sl.under {r:Id}:∀{t:Ty}{p:Pos},pre r p.id=true->Sl own w (sealOwn own r) w t p
 |.int _,_,_=>trivial
 |.bool,_,_=>trivial
 |.str,_,_=>trivial
 |.unit,_,_=>trivial
 |.slc _,_,_=>trivial
 |.sptr _,_,_=>trivial
 |.hole _,_,_=>trivial
 |.arr _ _,_,_=>trivial
 |.nilp,_,_=>trivial
 |.fo,_,_=>trivial
 |.hdr,_,_=>trivial
 |.clo _ _,_,_=>trivial
 |.mp _ _ _,_,_=>trivial
 |.pair a b,p,h=>⟨Sl.under (go h 0),Sl.under (go h 1)⟩
 |.own _ e,p,h=>⟨fun g hg=>⟨by simp only[sealOwn,hg,Pos.lb,h];rfl,rfl⟩,fun i=>Sl.under (p:=p.el i) h⟩
 |.bx t,p,h=>⟨fun g hg=>⟨by simp only[sealOwn,hg,Pos.lb,h];rfl,rfl⟩,Sl.under (go h 2)⟩
where
 go {r:Id} {p:Pos} (h:pre r p.id=true) (i:Nat):pre r (p.go i).id=true:=by
   obtain⟨id,sub,top⟩:=p;cases top
   . exact h
   . obtain⟨c,hc⟩:=pre_iff.1 h;have hc:id=r++c:=hc;exact pre_iff.2 ⟨c++[i],by subst hc;simp[Pos.go]⟩
theorem Zad {O:Obs}{r:Id}{P:Id->Prop}(hM:Mem own w G O P)(hr:∀o,pre r o=true->¬P o):Post own (sealOwn own r) w w G G O O false where
 objs:=fun o b hb=>(hM.objs o b hb).stay (P:=fun _=>True) (fun g hg=>⟨by simp only[sealOwn,hg],rfl⟩) (fun g s hg=>⟨by
     have:pre r o=false:=by
       cases e:pre r o
       . rfl
       . exact(hr o e (hM.live o (Z1 hb))).elim
     simp only[sealOwn,hg,this];rfl,rfl⟩) rfl (fun a _=>vwK_some.AV.men.all a) (fun _ _=>rfl)
 stay:=fun _ _ h=>h
 same:=fun _ _ _=>rfl
 nest:=fun _ _ _ _ _ _=>rfl
 box:=fun P hb o c hc=>(hb o c hc).mono fun _ h=>.inl h
 sealed:=fun g hg=>⟨by simp only[sealOwn,hg],rfl⟩
 outs:=fun g _ hg=>⟨by simp only[sealOwn,hg],rfl⟩
 bound:=fun g hg=>by simp only[sealOwn,hM.bound g hg]
 size:=Nat.le_refl _
 os:=rfl
 tape:=rfl
 output:=rfl
theorem Zgm {f d:Nat}{i:Id}{O:Obs}{t:Ty}{x:t.den}{cs:List Value}{K:AV->Obs->Option ρ}{r:ρ}{P:Id->Prop}(hM:Mem own w G O P)(hr:∀o,pre i o=true->¬P o)(hc:Rep own w t x ⟨i,[],true⟩ cs)(h:mkK E f d i O t x K=some r):
   ∃a O' G' own',K a O'=some r/\AVc own' w G' a cs/\Post own own' w w G G' O O' false/\(a.men fun o=>has O' o=true)/\(∀o,has O' o=true->has O o=true\/pre i o=true)/\a.ok=true/\a.size=t.size/\(∀o,has O o=true->look O' o=look O o)/\(∀g o s,own g=.ob o s->pre i o=false->own' g=.ob o s):=by
 unfold mkK at h;rcases Z8 h with⟨_,h⟩|⟨_,h⟩
 . obtain⟨hp,h⟩:=Z0 h;refine⟨_,O,G,sealOwn own i,h,⟨hp,?_⟩,Zad hM hr,trivial,fun o ho=>.inl ho,rfl,Z5e t,fun _ _=>rfl,fun g o s hg hp=>by simp only[sealOwn,hg,hp];rfl⟩;exact Rep.sealUp (Zad hM hr).sealed _ hp (Sl.under (p:=⟨i,[],true⟩) (Zn i)) hc
 . obtain⟨a,O',G',hk,u⟩:=Z2a (P:=P) hc hM.objs hM.box hr h;refine⟨a,O',G',own,hk,u.rep,u.post hM.bound (fun o ho=>Bool.eq_false_iff.2 fun e=>hr o ho (hM.live o e)),u.men.mono fun _ h=>h.1,fun o ho=>?_,u.ok,?_,u.more.kept,fun _ _ _ hg _=>hg⟩
   . cases e:pre i o
     . left;rw[<-Zh (u.more.same o e).2];exact ho
     . exact .inr rfl
   . exact u.rep.length.symm.trans hc.length
def Elems(own:Own)(w:World)(e:Ty)(p:Nat->Pos)(xs:List e.den)(cells:List Value):Prop:=∀(i:Nat)(y:e.den),xs[i]?=some y->Rep own w e y (p i) ((cells.drop (i*e.size)).take e.size)
theorem Zdu {tid:Nat}{e:Ty}{xs:List e.den}{p:Pos}{v:Value}{cells:List Value}{base:Nat}(h:w.ownsRow base tid e.size v xs.length cells)(hl:∀g,v.ownBlock=some g->own g=p.lb)(he:Elems own w e p.el xs cells):
   Rep own w (.own tid e) xs p [v]:=by
 obtain⟨hlen,⟨rfl,h0⟩|⟨g,cap,cur,rfl,_,hg,hc,hm,hsz,htake⟩⟩:=h
 . exact .inl ⟨rfl,h0⟩
 . refine .inr ⟨g,cap,cur,rfl,hl g rfl,hg,hc,hm,hsz,fun i y hy=>?_⟩;have:=he i y hy;rw[<-htake]at this;have hi:=(List.getElem?_eq_some_iff.1 hy).1;have h1:i*e.size+e.size<=xs.length*e.size:=by
     have:=Nat.mul_le_mul_right e.size (Nat.succ_le_of_lt hi);rw[Nat.succ_mul]at this;exact this
   rw[List.drop_take,List.take_take,Nat.min_eq_left (by omega)]at this;exact this
theorem Z4i {tid:Nat}{e:Ty}{xs:List e.den}{p:Pos}{v:Value}(h:Rep own w (.own tid e) xs p [v]):
   ∃cells,w.ownsRow 0 tid e.size v xs.length cells/\(∀g,v.ownBlock=some g->own g=p.lb)/\Elems own w e p.el xs cells:=by
 simp only[Rep,List.cons.injEq,and_true]at h;rcases h with⟨rfl,h0⟩|⟨g,cap,cur,rfl,ho,hg,hc,hm,hsz,he⟩
 . refine⟨[],⟨by rw[h0];simp,.inl ⟨rfl,h0⟩⟩,fun g hg=>(nomatch hg),fun i y hy=>?_⟩;rw[List.getElem?_eq_none (by omega)]at hy;cases hy
 . have hle:xs.length*e.size<=cur.size:=by rw[hsz];exact Nat.mul_le_mul_right _ hc
   refine⟨cur.toList.take (xs.length*e.size),⟨by rw[List.length_take,Array.length_toList];exact Nat.min_eq_left hle,.inr ⟨g,cap,cur,rfl,Nat.zero_le _,hg,hc,hm,hsz,rfl⟩⟩,fun k hk=>by cases hk;exact ho,fun i y hy=>?_⟩;have hi:=(List.getElem?_eq_some_iff.1 hy).1;have h1:i*e.size+e.size<=xs.length*e.size:=by
     have:=Nat.mul_le_mul_right e.size (Nat.succ_le_of_lt hi);rw[Nat.succ_mul]at this;exact this
   rw[List.drop_take,List.take_take,Nat.min_eq_left (by omega)];exact he i y hy
theorem Elems.app {e:Ty}{p q:Nat->Pos}{xs ys:List e.den}{c1 c2:List Value}(h1:Elems own w e p xs c1)(h2:Elems own w e q ys c2)(hl:c1.length=xs.length*e.size)(hq:∀i,p (xs.length+i)=q i):Elems own w e p (xs++ys) (c1++c2):=by
 intro i y hy;by_cases hi:i<xs.length
 . rw[List.getElem?_append_left hi]at hy;have h3:i*e.size+e.size<=c1.length:=by
     have:=Nat.mul_le_mul_right e.size (Nat.succ_le_of_lt hi);rw[Nat.succ_mul]at this;omega
   have:=h1 i y hy;rw[List.drop_append_of_le_length (by omega),List.take_append_of_le_length (by rw[List.length_drop];omega)];exact this
 . rw[List.getElem?_append_right (by omega)]at hy;have:=h2 (i-xs.length) y hy;rw[<-hq]at this;rw[show xs.length+(i-xs.length)=i by omega]at this;have e1:i*e.size=c1.length+(i-xs.length)*e.size:=by
     rw[hl,<-Nat.add_mul];congr 1;omega
   rw[e1,<-List.drop_drop,List.drop_left];exact this
theorem Elems.moveTo {e:Ty}{p q:Nat->Pos}{xs:List e.den}{cells:List Value}(hs:Sealed own w own' w')(hm:∀i,i<xs.length->Mv own w own' w' e (p i) (q i))(h:Elems own w e p xs cells):Elems own' w' e q xs cells:=
 fun i y hy=>Rep.move hs (hm i (List.getElem?_eq_some_iff.1 hy).1) (h i y hy)
theorem Elems.plainTo {e:Ty}{p q:Nat->Pos}{xs:List e.den}{cells:List Value}(hs:Sealed own w own' w')(he:e.plain=true)(h:Elems own w e p xs cells):Elems own' w' e q xs cells:=
 fun i y hy=>Rep.plain hs _ he (h i y hy)
end Go.Pv
namespace Go.Pv
open Go
variable {own own' own1 own2:Own}{w w' w1 w2:World}{G G' G1 G2:Gs}{ρ:Type}{E:Env}[Base]
theorem Zhd:∀{a:AV}{O:Obs}{K:(t:Ty)->t.den->Obs->Option ρ}{r:ρ},pkK a O K=some r->a.cel=true
 |.v t x,_,_,_,_=>rfl
 |.hole n,_,_,_,_=>rfl
 |.pr a b,_,_,_,_=>rfl
 |.ref o,_,_,_,_=>rfl
 |.dead,_,_,_,h=>by simp only[pkK]at h;cases h
 |.tn,_,_,_,h=>by simp only[pkK]at h;cases h
 |.tp _ _,_,_,_,h=>by simp only[pkK]at h;cases h
 |.hs _ _ _,_,_,_,h=>by simp only[pkK]at h;cases h
 |.p _ _ _,_,_,_,h=>by simp only[pkK]at h;cases h
 |.e _ _ _ _,_,_,_,h=>by simp only[pkK]at h;cases h
 |.s _ _ _,_,_,_,h=>by simp only[pkK]at h;cases h
 |.ap _ _,_,_,_,h=>by simp only[pkK]at h;cases h
 |.cl _ _,_,_,_,h=>by simp only[pkK]at h;cases h
def Z1e(own:Own)(x:AV)(o:Id)(j:Nat):Own:=fun g=>match own g with
 | .ob q s=>match x.rel ⟨o,[j],false⟩ q s with
   |some l=>l
   | none=>match s with
     |k::_=>nif (idEq q o) (nif (Nat.beq k j) .sh (.ob q s)) (.ob q s)
     |[]=>.ob q s
 |l=>l
theorem Zdv {T:TypeId}{P:Program}{i:TI}(hi:TIok P i T){O:Obs}{P0:Id->Prop}(hM:Mem own w G O P0){o:Id}{j tid:Nat}{e:Ty}{xs:List e.den}{y:e.den}{x:AV}{va vx:Value}{K:(t:Ty)->t.den->Obs->Option ρ}{r:ρ}
   (ha:AVv own w G (.e o j [] 0) va) (hx:AVv own w G x vx) (hs1:x.size=i.size) (hs2:x.agg=i.agg) (hl:look O o=some (.list tid e xs)) (hpl:e.plain=false) (hy:xs[j]?=some y) (h:pkK x O K=some r):
   ∃u z O1,K u z O1=some r/\∀hue:u=e,has O1 o=true->∃own' w',(Instr.storeAt T va vx).run P w=.ok () w'/\Post own own' w w' G G O (putA O1 o (.list tid e (xs.set j (cast (congrArg Ty.den hue) z)))) true:=by
 obtain⟨hsz,hn,hr⟩:=hM.objs o _ hl;obtain⟨A,m,c,hv,hj,he⟩:=(ha.one rfl rfl);simp only[List.cons.injEq,and_true]at he;subst he;rw[hv]at hr;simp only[Rep,List.cons.injEq,and_true,Value.slice.injEq,Option.some.injEq,reduceCtorEq,false_and,false_or]at hr;obtain⟨g,cap,cur,⟨rfl,rfl,rfl⟩,ho,hg,hc1,hc2,hc3,hel⟩:=hr;have ho:own g=.ob o []:=ho;have hel:∀(i:Nat)(y:e.den),xs[i]?=some y->Rep own w e y ⟨o,[i],false⟩ ((cur.toList.drop (i*e.size)).take e.size):=hel
 obtain⟨cs,hxc,hxv⟩:=hx.cells (Zhd h);obtain⟨u,z,O1,hk,hless,hdis,hrep⟩:=Z2j hxc hM.objs h;refine⟨u,z,O1,hk,fun hue ho1=>?_⟩;subst hue;have hno:¬x.rf o:=fun hf=>by
   obtain⟨b,hb⟩:=has_look.1 ho1;rw[hless.gone o hf]at hb;cases hb
 have hrel:∀s,x.rel ⟨o,[j],false⟩ o s=none:=fun s=>AV.rel_none hno
 have hmv:Mvs own w (Z1e own x o j) w x ⟨o,[j],false⟩:=Mvs.of hdis fun g i s l hg hl=>⟨by simp only[Z1e,hg,hl],rfl⟩
 have hs0:Sealed own w (Z1e own x o j) w:=fun k hk=>⟨by simp only[Z1e,hk],rfl⟩
 have hes:cs.length=u.size:=by
   have:=(hrep hs0 hmv).length;exact this
 have hjs:j*u.size+u.size<=cur.size:=by
   have:=Nat.mul_le_mul_right u.size (show j+1<=c by omega);rw[Nat.succ_mul]at this;omega
 rw[hs2]at hxv;have hst:=Z27 (P:=P) (o:=j*u.size+0) hi hg hxv hxc.one (hxc.length.trans hs1) (by omega);have hw:∀k,k≠g->(w.setRow g (cur.toList.take (j*u.size+0)++cs++cur.toList.drop (j*u.size+0+cs.length)).toArray).heap[k]?=w.heap[k]?:=fun k hk=>setRow_other w g k _ hk
 have hgo:Z1e own x o j g=.ob o []:=by simp only[Z1e,ho,hrel]
 refine⟨Z1e own x o j,_,by rw[hsz,Zx,Zx,Nat.zero_add];exact hst,?_⟩;generalize hw':w.setRow g (cur.toList.take (j*u.size+0)++cs++cur.toList.drop (j*u.size+0+cs.length)).toArray=w' at hw;have hsz':w'.heap.size=w.heap.size:=by rw[<-hw',Z7z]
 have hs:Sealed own w (Z1e own x o j) w':=fun k hk=>⟨(hs0 k hk).1,hw k fun e=>by rw[e,ho]at hk;cases hk⟩
 have hkeep:∀o',o'≠o->¬x.rf o'->∀k s,own k=.ob o' s->Z1e own x o j k=.ob o' s/\w'.heap[k]?=w.heap[k]?:=fun o' hne hnf k s hk=>by
   refine⟨?_,hw k fun e=>by rw[e,ho]at hk;cases hk;exact hne rfl⟩;simp only[Z1e,hk,AV.rel_none hnf,Z2s hne];cases s<;>rfl
 refine⟨?_,fun h=>(by cases h),fun _ _ _=>rfl,fun h=>(by cases h),?_,hs,?_,?_,by rw[hsz'];exact Nat.le_refl _,by rw[<-hw'];rfl,by rw[<-hw'];rfl,by rw[<-hw'];rfl⟩
 . intro o' b hb;rw[Z2i _ _ _ _ ho1]at hb;by_cases hoo:o'=o
   . subst hoo;rw[if_pos rfl]at hb;cases hb;refine⟨hsz,hn,?_⟩;rw[hv];refine .inr ⟨g,c,(cur.toList.take (j*u.size+0)++cs++cur.toList.drop (j*u.size+0+cs.length)).toArray,by rw[List.length_set],hgo,?_,by rw[List.length_set];exact hc1,hc2,?_,?_⟩
     . rw[<-hw'];exact setRow_heap w g cur _ tid _ hg
     . simp only[List.size_toArray,List.length_append,List.length_take,List.length_drop,Array.length_toList];omega
     . intro q y' hq;show Rep _ w' u y' ⟨o',[q],false⟩ _
       simp only[Nat.add_zero];rw[hes];by_cases hqj:q=j
       . subst hqj;rw[Z6q _ _ _ _ hes (by rw[Array.length_toList];exact hjs)];rw[List.getElem?_set_self (List.getElem?_eq_some_iff.1 hy).1]at hq;cases hq;refine hrep hs (Mvs.of hdis fun k i s l hk hl=>⟨by simp only[Z1e,hk,hl],hw k fun e=>?_⟩);rw[e,ho]at hk;cases hk;rw[hrel]at hl;cases hl
       . rw [Z5k _ _ _ _ _ hes (by rw[Array.length_toList];exact hjs) hqj];rw[List.getElem?_set_ne (Ne.symm hqj)]at hq;refine Rep.move hs (Mv.sub fun k s hk=>⟨?_,hw k fun e=>?_⟩) (hel q y' hq)
         . have hb:Nat.beq q j=false:=by
             cases e:Nat.beq q j
             . rfl
             . exact absurd (Nat.eq_of_beq_eq_true e) hqj
           simp only[Z1e,hk,hrel,List.cons_append,List.nil_append,Z1m,hb];rfl
         . rw[e,ho]at hk;cases hk
   . rw[if_neg hoo]at hb;by_cases hf:x.rf o'
     . rw[hless.gone o' hf]at hb;cases hb
     . rw[hless.kept o' hf]at hb;exact(hM.objs o' b hb).stay (P:=fun _=>True) hs (hkeep o' hoo hf) rfl (fun a _=>vwK_some.AV.men.all a) (fun _ _=>rfl)
 . intro P hb o' c' hc;rw[Z2i _ _ _ _ ho1]at hc;split at hc
   . cases hc
   . by_cases hf:x.rf o'
     . rw[hless.gone o' hf]at hc;cases hc
     . rw[hless.kept o' hf]at hc;exact(hb o' c' hc).mono fun i hi=>.inl hi
 . intro k _ hk;exact⟨by simp only[Z1e,hk],hw k fun e=>by rw[e,ho]at hk;cases hk⟩
 . intro k hk;rw[hsz']at hk;simp only[Z1e,hM.bound k hk]
theorem Zgn:∀{p q:List Bool}{r s:List Nat},dv p q=true->pn p++r≠pn q++s
 |[],_,_,_,h=>by simp[dv]at h
 | _::_,[],_,_,h=>by simp[dv]at h
 | a::p,b::q,r,s,h=>by
   simp only[dv]at h;intro he;split at h
   . rename_i hab;have:=eq_of_beq hab;subst this;cases a<;>(simp only[pn,List.cons_append,List.cons.injEq,true_and]at he;exact Zgn h he)
   . rename_i hab;cases a<;>cases b<;>simp[pn]at he hab
theorem Zgo {T:TypeId}{P:Program}{i:TI}(hi:TIok P i T){O:Obs}{o:Id}{fp:List Bool}{off j jj sz tid tid2:Nat}{e e2:Ty}{xs:List e.den}{y z:e.den}{ys:List e2.den}{c c0:e2.den}{va vx:Value}(hO:Objs own w G O)
   (hbd:∀g,w.heap.size<=g->own g=.out) (ha:AVv own w G (.s o j (.el fp off jj sz)) va) (hx:AVv own w G (.v e2 c) vx)
   (hs1:e2.size=i.size) (hs2:e2.agg=i.agg) (hs3:e2.size=sz) (hl:look O o=some (.list tid e xs)) (hoff:offT e fp=off) (hy:xs[j]?=some y) (hget:ys[jj]?=some c0) (hput:PutT e fp y z (.own tid2 e2) ys (ys.set jj c)):
   ∃w',(Instr.storeAt T va vx).run P w=.ok () w'/\Post own own w w' G G O (putA O o (.list tid e (xs.set j z))) false:=by
 obtain⟨hsz,hn,hr⟩:=hO o _ hl;obtain⟨hnest,A,m,cc,A2,m2,cc2,hv,hj,hcell,hjj,he⟩:=(ha.one rfl rfl);simp only[List.cons.injEq,and_true]at he;subst he;rw[hv]at hr;have hr0:=hr;obtain⟨g,cur,cap,rfl,rfl,ho,hg,hc1,hc2,hc3,rfl,hjs,hy1⟩:=Z1b hr hy;have ho:own g=.ob o []:=ho;obtain⟨c1,c2,c3,hcur,hlen,hc,hfin⟩:=hput.rep hy1;obtain⟨u,rfl⟩:∃u,c2=[u]:=by
   have:=hc.length
   match c2,this with
   |[u],_=>exact⟨u,rfl⟩
 have hu:=Z2b hg (c1:=c1) (u:=u) (c3:=c3) (by rw[hcur];rfl);rw[hlen,hoff,<-hsz,hcell]at hu;cases hu;rw[show((⟨o,[],true⟩:Pos).el j)=⟨o,[j],false⟩from rfl,Pos.at_low]at hc;obtain⟨g2,cur2,cap2,rfl,rfl,ho2,hg2,hd1,hd2,hd3,rfl,hjs2,hy2⟩:=Z1b hc hget;have ho2:own g2=.ob o ([j]++pn fp):=ho2;obtain⟨ds,⟨hup,hds⟩,hdv⟩:=hx.cells rfl;have hdl:ds.length=e2.size:=hds.length;have hst:=Z27 (P:=P) (o:=jj*e2.size) hi hg2 (by rw[<-hs2];exact hdv) hds.one (hds.length.trans hs1) (by rw[hdl];exact hjs2);rw[hdl]at hst;refine⟨_,by rw[<-hs3,Zx,Nat.zero_add];exact hst,?_⟩;have hw:=fun k hk=>setRow_other w g2 k (cur2.toList.take (jj*e2.size)++ds++cur2.toList.drop (jj*e2.size+e2.size)).toArray hk
 have hgg:g≠g2:=fun e=>by rw[e,ho2]at ho;cases ho
 have hs:Sealed own w own (w.setRow g2 (cur2.toList.take (jj*e2.size)++ds++cur2.toList.drop (jj*e2.size+e2.size)).toArray):=fun k hk=>⟨hk,hw k fun e=>by rw[e,ho2]at hk;cases hk⟩
 refine Post.put hO hbd hl ho2 (fun _ _ e=>by simp at e) (fun _=>?_) (fun _ _ _ a e=>by cases e);refine⟨hsz,hn,?_⟩;rw[hv];have hel:=Zem hr hg;refine .inr ⟨g,cc,cur,by rw[List.length_set],ho,(hw g hgg).trans hg,by rw[List.length_set];exact hc1,hc2,hc3,?_⟩;intro q y' hq;by_cases hqj:q=j
 . subst hqj;rw[List.getElem?_set_self (List.getElem?_eq_some_iff.1 hy).1]at hq;cases hq;rw[hcur];refine hfin (q2:=⟨o,[q],false⟩) (fun t z p' zs hd hz=>?_) [_] ?_
   . rw[show((⟨o,[],true⟩:Pos).el q)=⟨o,[q],false⟩from rfl,Pos.at_low]at hz;rw[Pos.at_low];refine Rep.move hs (Mv.sub fun k r hk=>⟨hk,hw k fun e=>?_⟩) hz;rw[e,ho2]at hk;simp only[Lb.ob.injEq,true_and]at hk;rw[List.append_assoc]at hk;have:=List.append_cancel_left hk;exact Zgn (r:=r) (s:=[]) hd (by rw[List.append_nil];exact this.symm)
   . rw[Pos.at_low];refine .inr ⟨g2,cc2,(cur2.toList.take (jj*e2.size)++ds++cur2.toList.drop (jj*e2.size+e2.size)).toArray,by rw[List.length_set],ho2,setRow_heap w g2 cur2 _ tid2 _ hg2,by rw[List.length_set];exact hd1,hd2,?_,fun q' z' hq'=>?_⟩
     . simp only[List.size_toArray,List.length_append,List.length_take,List.length_drop,Array.length_toList];omega
     . simp only;by_cases hqq:q'=jj
       . subst hqq;rw[Z6q _ _ _ _ hdl (by rw[Array.length_toList];exact hjs2)];rw[List.getElem?_set_self (List.getElem?_eq_some_iff.1 hget).1]at hq';cases hq';exact Rep.plain hs _ hup hds
       . rw[Z5k _ _ _ _ _ hdl (by rw[Array.length_toList];exact hjs2) hqq];rw[List.getElem?_set_ne (Ne.symm hqq)]at hq';exact Rep.plain hs _ hup (Zem hc hg2 q' z' hq')
 . rw[List.getElem?_set_ne (Ne.symm hqj)]at hq;refine Rep.move hs (Mv.sub fun k r hk=>⟨hk,hw k fun e=>?_⟩) (hel q y' hq);rw[e,ho2]at hk;simp only[Lb.ob.injEq,true_and,List.cons_append,List.nil_append,List.cons.injEq]at hk;exact hqj hk.1.symm
theorem Zbn:∀{a:AV}{O:Obs}{K:(t:Ty)->t.den->Obs->Option ρ}{r:ρ},pkK a O K=some r->∃u y O1,K u y O1=some r/\∀o c,look O o=some (.box c)->look O1 o=some (.box c)/\¬a.rf o
 |.v t x,O,K,r,h=>⟨_,_,_,h,fun o c hl=>⟨hl,fun e=>e⟩⟩
 |.hole n,O,K,r,h=>⟨_,_,_,h,fun o c hl=>⟨hl,fun e=>e⟩⟩
 | .pr a b,O,K,r,h=>by
   simp only[pkK]at h;obtain⟨u,y,O1,h,e1⟩:=Zbn h;obtain⟨v,z,O2,h,e2⟩:=Zbn h;refine⟨_,_,_,h,fun o c hl=>?_⟩;have h1:=e1 o c hl;have h2:=e2 o c h1.1;exact⟨h2.1,fun e=>e.elim h1.2 h2.2⟩
 | .ref o',O,K,r,h=>by
   simp only[pkK]at h;split at h
   . rename_i tid e xs hl;rw[Z4]at h;refine⟨_,_,_,h,fun o c hc=>?_⟩;have hne:o≠o':=by rintro rfl;rw[hl]at hc;cases hc
     exact⟨by rw[Za,if_neg hne];exact hc,hne⟩
   . rename_i tid k v es hl;rw[Z4]at h;refine⟨_,_,_,h,fun o c hc=>?_⟩;have hne:o≠o':=by rintro rfl;rw[hl]at hc;cases hc
     exact⟨by rw[Za,if_neg hne];exact hc,hne⟩
   . cases h
 |.dead,_,_,_,h=>by simp only[pkK]at h;cases h
 |.tn,_,_,_,h=>by simp only[pkK]at h;cases h
 |.tp _ _,_,_,_,h=>by simp only[pkK]at h;cases h
 |.hs _ _ _,_,_,_,h=>by simp only[pkK]at h;cases h
 |.p _ _ _,_,_,_,h=>by simp only[pkK]at h;cases h
 |.e _ _ _ _,_,_,_,h=>by simp only[pkK]at h;cases h
 |.s _ _ _,_,_,_,h=>by simp only[pkK]at h;cases h
 |.ap _ _,_,_,_,h=>by simp only[pkK]at h;cases h
 |.cl _ _,_,_,_,h=>by simp only[pkK]at h;cases h
def Z2c(own:Own)(c:AV)(b o:Id)(i:Nat):Own:=fun g=>match own g with
 | .ob q s=>match c.rel ⟨o,[i,2],false⟩ q s with
   |some l=>l
   | none=>match s with
     |k::_=>nif (idEq q o) (nif (Nat.beq k i) .sh (.ob q s)) (.ob q s)
     |[]=>nif (idEq q b) (.ob o [i]) (.ob q s)
 |l=>l
theorem Z5t(hE:EnvOk E){T kT vT:Nat}(hT:E.P.underlying T=some (.map kT vT)){k:Ty}{β:Type}{V:Nat->β->Value->Prop}{x:k.den}{cx:List Value}{p q:Pos}{vx vz:Value}{en:Array MapEntry}{es:List (k.den×β)}{g clock:Nat}(hk:k.keyOk=true)(ht:eqT E 8 kT k=true)
   (hpx:k.plain=true) (hx:Rep own w k x p cx) (hvx:IsVal k.agg cx vx) (hF:MFit own w k V q 0 en.toList es) (hg:w.heap[g]?=some (.map en clock)):
   ∃ (i:Nat)(en':Array MapEntry)(c':Nat),(Instr.mapUpdate T (.map (some g)) vx vz).run E.P w=.ok () {w with heap:=w.heap.setIfInBounds g (.map en' c')}/\i<=es.length/\
     (∀z,(mput k es x z).length=en'.size)/\(∀z,(mput k es x z)[i]?=some (x,z))/\(∃m,en'[i]?=some m/\m.key=vx/\m.val=vz)/\
     ∀j,j≠i->(∀z,(mput k es x z)[j]?=es[j]?)/\en'[j]?=en[j]?:=by
 have hfind:=Z6r hE hk ht hx hvx hF;have hchk:=Z3u hE false 9992 ht hx hvx;have hx':Rep own w k x q cx:=Rep.plain (Sealed.refl _ _) _ hpx hx;obtain⟨hlen,hget⟩:=hF.get;rcases Z5m (x:=x) 0 hF with⟨j,m',a',b',r1,r2,r3,r4,r5,r6,r7,r8⟩|⟨r1,r2,r3,r4⟩
 . have hj:en[j]?=some m':=by simpa using r2
   have hjl:j<es.length:=(List.getElem?_eq_some_iff.1 r3).1;have hjs:j<en.size:=(Array.getElem?_eq_some_iff.1 hj).1;have hkey:m'.key=vx:=by
     obtain⟨kc,i1,i3,_⟩:=hget j m' (a',b') r2 r3;have:=keyV_eq hk r4;subst this;have hc:=Rep.flat_det (Z62 hk) hx' i3;subst hc;exact Zf9 i1 hvx
   have hsame:Instr.sameBits 10000 vx vx=true:=Zgk (Z62 hk) hx' hvx 9999;refine⟨j,en.modify j fun e=>{e with key:=vx,val:=vz},clock,?_,by omega,fun z=>by rw[r8,List.length_set,Array.size_modify];simpa using hlen.symm,fun z=>by rw[r8,List.getElem?_set_self hjl],⟨{m' with key:=vx,val:=vz},by rw[Array.getElem?_modify,if_pos rfl,hj];rfl,rfl,rfl⟩,fun q hq=>⟨fun z=>by rw[r8,List.getElem?_set_ne (Ne.symm hq)],by rw[Array.getElem?_modify,if_neg (Ne.symm hq)]⟩⟩;unfold Instr.mapUpdate;simp only[Sem.run_bind,run_underlying hT,Result.andThen_ok,Zdq hg,show(10000:Nat)=9992+8 from rfl,hchk,hfind,r1,Nat.zero_add];simp only[hj,Option.map_some,Option.getD_some,hkey,Instr.keyThatStays,hsame,if_true,Sem.run_pure,Result.andThen_ok];simp[setObj,Sem.run,hg]
 . have hl2:es.length=en.size:=by simpa using hlen.symm
   refine⟨es.length,en.push {key:=vx,val:=vz,born:=clock},clock+1,?_,Nat.le_refl _,fun z=>by rw[r4];simp[hl2],fun z=>by rw[r4];simp,⟨{key:=vx,val:=vz,born:=clock},by rw[hl2];simp,rfl,rfl⟩,fun q hq=>⟨fun z=>?_,?_⟩⟩
   . unfold Instr.mapUpdate;simp only[Sem.run_bind,run_underlying hT,Result.andThen_ok,Zdq hg,show(10000:Nat)=9992+8 from rfl,hchk,hfind,r1];simp[setObj,Sem.run,hg]
   . rw[r4];rcases Nat.lt_or_gt_of_ne hq with h|h
     . rw[List.getElem?_append_left h]
     . rw[List.getElem?_eq_none (by simp;omega),List.getElem?_eq_none (by omega)]
   . rcases Nat.lt_or_gt_of_ne hq with h|h
     . rw[Array.getElem?_push,if_neg (by omega)]
     . rw[Array.getElem?_eq_none (by simp;omega),Array.getElem?_eq_none (by omega)]
theorem Zbo (hE:EnvOk E){T kT vT:Nat}(hT:E.P.underlying T=some (.map kT vT)){O:Obs}{m x z:AV}{vm vx vz:Value}{K:Obs->Bool->Option ρ}{r:ρ}{P:Id->Prop}(hM:Mem own w G O P)
   (hm:AVv own w G m vm) (hx:AVv own w G x vx) (hz:AVv own w G z vz) (h:Z5c E O kT m x z K=some r):
   ∃O' b own' w',K O' b=some r/\(Instr.mapUpdate T vm vx vz).run E.P w=.ok () w'/\Post own own' w w' G G O O' b:=by
 have hO:=hM.objs;unfold Z5c at h;split at h
 . rename_i o u y t z;split at h
   . rename_i tid k v es hl;obtain⟨hk,h⟩:=Z0 h;obtain⟨ht,h⟩:=Z0 h;obtain⟨rfl,h⟩:=Z3 h;obtain⟨rfl,h⟩:=Z3 h;obtain⟨l,hes,hb⟩:=bind_some h;subst hes;rw[putK_eq]at hb;obtain⟨hn,hr⟩:=hO o _ hl;obtain⟨he,_⟩:=hm.one rfl rfl;simp only[List.cons.injEq,and_true]at he;obtain⟨hkf,hvf,en,hen,hF⟩:=Z8y hr;obtain⟨cx,⟨hpx,hrx⟩,hvx⟩:=hx.cells rfl;obtain⟨cz,⟨hpz,hrz⟩,hvz⟩:=hz.cells rfl;have hflat:t.flat=true:=by
       cases t<;>first|exact hvf|cases hpz
     simp only[Rep,List.cons.injEq,and_true,reduceCtorEq,and_false,false_or]at hr;obtain⟨_,_,g,en2,clock,l',e1,hv,ho,hg,hl2,hfit⟩:=hr;cases e1;rcases hen with⟨hv2,_⟩|⟨g2,clock2,hv2,_,hg2⟩
     . rw[hv]at hv2;cases hv2
     rw[hv]at hv2;cases hv2;rw[hg]at hg2;cases hg2;rw[hv]at he;subst he;obtain⟨i,en',c',hrun,hil,hlen,hat,⟨mm,hmm,hmk,hmv⟩,hoth⟩:=Z5t hE hT (vz:=vz) hk ht hpx hrx hvx hF hg;refine⟨_,_,own,_,hb,hrun,?_⟩;have hw:∀k,k≠g->({w with heap:=w.heap.setIfInBounds g (.map en' c')}:World).heap[k]?=w.heap[k]?:=fun k hk=>by
       simp[Array.getElem?_setIfInBounds_ne (Ne.symm hk)]
     have hs:Sealed own w own {w with heap:=w.heap.setIfInBounds g (.map en' c')}:=fun k hk=>⟨hk,hw k fun e=>by rw[e,ho]at hk;cases hk⟩
     have hlt:g<w.heap.size:=(Array.getElem?_eq_some_iff.1 hg).1;refine Post.putW hO hM.bound hl ho hw (by simp) rfl rfl rfl (fun _ e=>by rw[hn,hflat]at e;cases e) (fun _=>⟨hn,?_⟩) (fun _ _ _ a e=>by cases e);rw[hv];refine⟨hkf,hvf,.inr ⟨g,en',c',_,rfl,rfl,ho,by simp[hlt],(hlen z).symm,fun j m' x' h3 h4=>?_⟩⟩;by_cases hj:j=i
     . subst hj;rw[hmm]at h3;have h4:=h4.symm.trans (hat z);cases h3;cases h4;exact⟨cx,cz,by rw[hmk];exact hvx,by rw[hmv];exact hvz,Rep.plain hs _ hpx hrx,Rep.plain hs _ hpz hrz⟩
     . rw[(hoth j hj).2]at h3;have h4:=((hoth j hj).1 z).symm.trans h4;obtain⟨kc,vc,i1,i2,i3,i4⟩:=hfit j m' x' h3 h4;exact⟨kc,vc,i1,i2,Rep.plain hs _ (Z12 hkf) i3,Rep.plain hs _ hpz i4⟩
   . cases h
 . rename_i o u y b;split at h
   . rename_i tid k v es hl;obtain⟨hk,h⟩:=Z0 h;obtain⟨ht,h⟩:=Z0 h;obtain⟨rfl,h⟩:=Z3 h;split at h
     . rename_i c hlb;obtain⟨hn,hr⟩:=hO o _ hl;obtain⟨he,_⟩:=hm.one rfl rfl;simp only[List.cons.injEq,and_true]at he;obtain⟨hkf,hvf,en,hen,hF⟩:=Z8y hr;obtain⟨cx,⟨hpx,hrx⟩,hvx⟩:=hx.cells rfl;obtain⟨hbn,gb,curb,Tb,hbv,hbo,hbg,hbc⟩:=hO b _ hlb;obtain⟨gb',hbv',hzc⟩:=hz.one rfl rfl;rw[hbv]at hbv';cases hbv';simp only[List.cons.injEq,and_true]at hzc;subst hzc;obtain⟨_,_,_,_,hbox⟩:=Zbn h;obtain⟨t,zz,O1,h,hless,hdis,hrep⟩:=Z2j hbc hO h;obtain⟨rfl,h⟩:=Z3 h;rw[Z4]at h;obtain⟨ho2,h⟩:=Z0 h;obtain⟨l,hes,hb⟩:=bind_some h;subst hes;rw[putK_eq]at hb;simp only[Rep,List.cons.injEq,and_true,reduceCtorEq,and_false,false_or]at hr;obtain⟨_,_,g,en2,clock,l',e1,hv,ho,hg,hl2,hfit⟩:=hr;cases e1;rcases hen with⟨hv2,_⟩|⟨g2,clock2,hv2,_,hg2⟩
       . rw[hv]at hv2;cases hv2
       rw[hv]at hv2;cases hv2;rw[hg]at hg2;cases hg2;rw[hv]at he;subst he;have ho:own g=.ob o []:=ho;obtain⟨i,en',c',hrun,hil,hlen,hat,⟨mm,hmm,hmk,hmv⟩,hoth⟩:=Z5t hE hT (vz:=.pointer (some ⟨gb,0,none⟩)) hk ht hpx hrx hvx hF hg;have hob:o≠b:=by rintro rfl;rw[hl]at hlb;cases hlb
       have hsub:∀q bb,look (Z16 O1 b) q=some bb->look O q=some bb/\¬c.rf q/\q≠b:=by
         intro q bb hq;rw[Za]at hq;split at hq
         . cases hq
         . rename_i hne;by_cases hf:c.rf q
           . rw[hless.gone q hf]at hq;cases hq
           . rw[hless.kept q hf]at hq;exact⟨hq,hf,hne⟩
       have hno:¬c.rf o:=by
         obtain⟨bb,hbb⟩:=has_look.1 ho2;exact(hsub o bb hbb).2.1
       have hnb:¬c.rf b:=(hbox b c hlb).2;have hw:∀k,k≠g->({w with heap:=w.heap.setIfInBounds g (.map en' c')}:World).heap[k]?=w.heap[k]?:=fun k hk=>by
         simp[Array.getElem?_setIfInBounds_ne (Ne.symm hk)]
       have hlt:g<w.heap.size:=(Array.getElem?_eq_some_iff.1 hg).1;refine⟨_,_,Z2c own c b o i,_,hb,hrun,?_⟩;have hs:Sealed own w (Z2c own c b o i) {w with heap:=w.heap.setIfInBounds g (.map en' c')}:=fun k hk=>⟨by simp only[Z2c,hk],hw k fun e=>by rw[e,ho]at hk;cases hk⟩
       have hrel:∀s,c.rel ⟨o,[i,2],false⟩ o s=none:=fun s=>AV.rel_none hno
       have hgo:Z2c own c b o i g=.ob o []:=by simp only[Z2c,ho,hrel,Z2s hob];rfl
       have hkeep:∀o',o'≠o->o'≠b->¬c.rf o'->∀k s,own k=.ob o' s->Z2c own c b o i k=.ob o' s/\({w with heap:=w.heap.setIfInBounds g (.map en' c')}:World).heap[k]?=w.heap[k]?:=fun o' hne hnb' hnf k s hk=>by
         refine⟨?_,hw k fun e=>by rw[e,ho]at hk;cases hk;exact hne rfl⟩;simp only[Z2c,hk,AV.rel_none hnf,Z2s hne,Z2s hnb'];cases s<;>rfl
       refine⟨?_,fun h=>(by cases h),fun _ _ _=>rfl,fun h=>(by cases h),?_,hs,?_,?_,by simp,rfl,rfl,rfl⟩
       . intro o' b' hb';rw[Z2i _ _ _ _ ho2]at hb';by_cases hoo:o'=o
         . subst hoo;rw[if_pos rfl]at hb';cases hb';refine⟨hn,?_⟩;rw[hv];refine⟨hkf,hvf,.inr ⟨g,en',c',_,rfl,rfl,hgo,by simp[hlt],(hlen _).symm,fun j m' x' h3 h4=>?_⟩⟩;by_cases hj:j=i
           . subst hj;rw[hmm]at h3;have h4:=h4.symm.trans (hat _);cases h3;cases h4;refine⟨cx,[_],by rw[hmk];exact hvx,by rw[hmv];rfl,Rep.plain hs _ hpx hrx,gb,curb,Tb,rfl,?_,?_,?_⟩
             . show Z2c own c b o' j gb=.ob o' [j]
               simp only[Z2c,hbo,AV.rel_none hnb,Z1m];rfl
             . exact(hw gb fun e=>by rw[e,ho]at hbo;cases hbo;exact hob rfl).trans hbg
             . refine hrep (p:=⟨o',[j,2],false⟩) hs (Mvs.of hdis fun k q s l hk hl=>⟨by simp only[Z2c,hk,hl],hw k fun e=>?_⟩);rw[e,ho]at hk;cases hk;rw[hrel]at hl;cases hl
           . rw[(hoth j hj).2]at h3;have h4:=((hoth j hj).1 _).symm.trans h4;obtain⟨kc,vc,i1,i2,i3,i4⟩:=hfit j m' x' h3 h4;refine⟨kc,vc,i1,i2,Rep.plain hs _ (Z12 hkf) i3,Rep.move hs (Mv.sub fun k s hk=>⟨?_,hw k fun e=>by rw[e,ho]at hk;cases hk⟩) i4⟩;have hb:Nat.beq j i=false:=by
               cases e:Nat.beq j i
               . rfl
               . exact absurd (Nat.eq_of_beq_eq_true e) hj
             simp only[List.nil_append,List.cons_append]at hk⊢;simp only[Z2c,hk,hrel,Z1m,hb];rfl
         . rw[if_neg hoo]at hb';obtain⟨h1,h2,h3⟩:=hsub o' b' hb';exact(hO o' b' h1).stay (P:=fun _=>True) hs (hkeep o' hoo h3 h2) rfl (fun a _=>vwK_some.AV.men.all a) (fun _ _=>rfl)
       . intro P hb o' c'' hc';rw[Z2i _ _ _ _ ho2]at hc';split at hc'
         . cases hc'
         . exact(hb o' c'' (hsub o' _ hc').1).mono fun i hi=>.inl hi
       . intro k _ hk;exact⟨by simp only[Z2c,hk],hw k fun e=>by rw[e,ho]at hk;cases hk⟩
       . intro k hk;simp only[Array.size_setIfInBounds]at hk;simp only[Z2c,hM.bound k hk]
     . cases h
   . cases h
 . cases h
end Go.Pv
namespace Go.Pv
open Go
variable {own own' own1 own2:Own}{w w' w1 w2:World}{G G' G1 G2:Gs}{ρ:Type}{E:Env}[Base]
structure Made (own:Own) (w:World) (G:Gs) (O:Obs) (own':Own) (w':World) (G':Gs) (O':Obs) (b:Bool) (a:AV) (v:Value):Prop where
 val:AVv own' w' G' a v
 men:a.men fun o=>has O' o=true
 post:Post own own' w w' G G' O O' b
theorem Z90 {P:Program}{T:TypeId}{j:TI}(hj:TIok P j T):∃z cs,(∀w,(zeroValue T).run P w=.ok z w)/\litC j.zero.t j.zero.x=some cs/\IsVal j.agg cs z:=by
 obtain⟨inf,z,cs,h1,h2,h3,h4,h5,h6⟩:=hj.info;exact⟨z,cs,fun w=>by simp[zeroValue,typeInfo,h1,h4],h5,h6⟩
theorem AVc.toV {a:AV}{cs:List Value}{v:Value}{g:Bool}(h:AVc own w G a cs)(hg:a.agg=g)(hv:IsVal g cs v):AVv own w G a v:=.of h (by rw[hg];exact hv)
theorem Z4j:∀{t:Ty}{x:t.den}{r:Id}{O:Obs}{K:AV->Obs->Option ρ}{res:ρ},unpK t x r O K=some res->∃a O',K a O'=some res/\a.agg=t.agg/\(∀{ρ':Type}(K':AV->Obs->Option ρ'),unpK t x r O K'=K' a O')
 |.int k,x,r,O,K,res,h=>⟨_,_,h,rfl,fun _=>rfl⟩
 |.bool,x,r,O,K,res,h=>⟨_,_,h,rfl,fun _=>rfl⟩
 |.str,x,r,O,K,res,h=>⟨_,_,h,rfl,fun _=>rfl⟩
 |.unit,x,r,O,K,res,h=>⟨_,_,h,rfl,fun _=>rfl⟩
 |.hole n,x,r,O,K,res,h=>⟨_,_,h,rfl,fun _=>rfl⟩
 |.nilp,x,r,O,K,res,h=>⟨_,_,h,rfl,fun _=>rfl⟩
 |.fo,x,r,O,K,res,h=>⟨_,_,h,rfl,fun _=>rfl⟩
 |.hdr,x,r,O,K,res,h=>⟨_,_,h,rfl,fun _=>rfl⟩
 | .slc e,x,r,O,K,res,h=>by
   simp only[unpK]at h⊢;obtain⟨hp,h⟩:=Z0 h;rw[hp];exact⟨_,_,h,rfl,fun _=>rfl⟩
 | .sptr e,x,r,O,K,res,h=>by
   simp only[unpK]at h⊢;obtain⟨hp,h⟩:=Z0 h;rw[hp];exact⟨_,_,h,rfl,fun _=>rfl⟩
 | .arr n e,x,r,O,K,res,h=>by
   simp only[unpK]at h⊢;obtain⟨hp,h⟩:=Z0 h;rw[hp];exact⟨_,_,h,rfl,fun _=>rfl⟩
 | .clo n e,x,r,O,K,res,h=>by
   simp only[unpK]at h⊢;obtain⟨hp,h⟩:=Z0 h;rw[hp];exact⟨_,_,h,rfl,fun _=>rfl⟩
 | .own tid e,x,r,O,K,res,h=>by
   simp only[unpK,newK]at h⊢;obtain⟨hp,h⟩:=Zs h;rw[hp];exact⟨_,_,h,rfl,fun _=>rfl⟩
 | .mp tid k v,x,r,O,K,res,h=>by
   simp only[unpK,newK]at h⊢;obtain⟨hp,h⟩:=Zs h;rw[hp];exact⟨_,_,h,rfl,fun _=>rfl⟩
 | .bx t,x,r,O,K,res,h=>by
   simp only[unpK,newK]at h⊢;obtain⟨a,O1,h,ha,he⟩:=Z4j h;obtain⟨hp,h⟩:=Zs h;refine⟨_,_,h,rfl,fun K'=>?_⟩;rw[he,hp];rfl
 | .pair t u,x,r,O,K,res,h=>by
   simp only[unpK]at h⊢;obtain⟨a,O1,h,ha,he⟩:=Z4j h;obtain⟨b,O2,h,hb,he2⟩:=Z4j h;rw[Zf]at h;refine⟨_,_,h,Z4d _ _,fun K'=>?_⟩;rw[he,he2,Zf]
theorem Zgp:∀t:Ty,t.sh.agg=t.agg:=by
 intro t;cases t<;>rfl
theorem Zdw {f d:Nat}{i:Id}{O:Obs}{t:Ty}{x:t.den}{K:AV->Obs->Option ρ}{r:ρ}(h:mkK E f d i O t x K=some r):
   ∃a O',K a O'=some r/\a.agg=t.agg/\∀{ρ':Type}(K':AV->Obs->Option ρ'),mkK E f d i O t x K'=K' a O':=by
 unfold mkK at h⊢;rcases Z8 h with⟨h1,h⟩|⟨h1,h⟩
 . obtain⟨h2,h⟩:=Z0 h;exact⟨_,_,h,Zgp t,fun K'=>by rw[h1,h2];rfl⟩
 . obtain⟨a,O',h,ha,he⟩:=Z4j h;exact⟨a,O',h,ha,fun K'=>by rw[h1];exact he K'⟩
theorem Z2n {f d:Nat}{i:Id}{O:Obs}{t:Ty}{x:t.den}{cs:List Value}{v:Value}{K:AV->Obs->Option ρ}{r:ρ}{P:Id->Prop}(hM:Mem own w G O P)(hr:∀o,pre i o=true->¬P o)(hc:Rep own w t x ⟨i,[],true⟩ cs)(hv:IsVal t.agg cs v)(h:mkK E f d i O t x K=some r):
   ∃a O' G' own',K a O'=some r/\Made own w G O own' w G' O' false a v/\AVc own' w G' a cs/\(∀o,has O' o=true->has O o=true\/pre i o=true)/\a.ok=true/\a.size=t.size/\a.agg=t.agg/\(∀o,has O o=true->look O' o=look O o)/\(∀g o s,own g=.ob o s->pre i o=false->own' g=.ob o s):=by
 obtain⟨a,O',h1,hg,he⟩:=Zdw h;obtain⟨a',O'',G',own',h2,h3,h4,h5,h6,h7,h8,h9⟩:=Zgm (E:=E) (f:=f) (d:=d) (K:=fun a1 O1=>nif true (some (a1,O1)) none) (r:=(a,O')) hM hr hc (by rw[he];rfl);cases h2;exact⟨a,O',G',own',h1,⟨h3.toV hg hv,h5,h4⟩,h3,h6,h7,h8,hg,h9⟩
theorem Z82 {f d:Nat}{i:Id}{O:Obs}{t:Ty}{x:t.den}{cs:List Value}{v:Value}{K:AV->Obs->Option ρ}{r:ρ}{P:Id->Prop}(hM:Mem own w G O P)(hr:∀o,pre i o=true->¬P o)(hc:litC t x=some cs)(hv:IsVal t.agg cs v)(h:mkK E f d i O t x K=some r):
   ∃a O' G' own',K a O'=some r/\Made own w G O own' w G' O' false a v/\AVc own' w G' a cs/\(∀o,has O' o=true->has O o=true\/pre i o=true)/\a.ok=true/\a.size=t.size/\a.agg=t.agg/\(∀o,has O o=true->look O' o=look O o)/\(∀g o s,own g=.ob o s->pre i o=false->own' g=.ob o s):=
 Z2n hM hr (Zr hc) hv h
theorem Z83 {O:Obs}{r:Id}{a:AV}{cs:List Value}{T:TypeId}{K:Obs->Option ρ}{res:ρ}{P:Id->Prop}(hM:Mem own w G O P)(hr:¬P r)(hc:AVc own w G a cs)(hok:a.ok=true)(hm:a.men fun o=>has O o=true)(h:newK O r (.box a) K=some res):
   ∃own' G',K ((r,.box a)::O)=some res/\Made own w G O own' (w.alloc (.cells cs.toArray T)) G' ((r,.box a)::O) false (.p r [] 0) (.pointer (some ⟨w.heap.size,0,none⟩)):=by
 obtain⟨hn,h⟩:=Zb h;refine⟨_,_,h,⟨⟨_,⟨w.heap.size,by rw[Z7],rfl⟩,rfl⟩,?_,Post.alloc (l:=.ob r []) (x:=⟨.pointer (some ⟨w.heap.size,0,none⟩),0,false⟩) (Q:=P) hM.objs hM.box hr hM.bound hn ?_ (fun a e=>by cases e;exact hm)⟩⟩
 . exact(Zp _ _ _ _).2 (.inl rfl)
 . refine⟨⟨by rw[Z7],hok⟩,w.heap.size,cs.toArray,T,by rw[Z7],if_pos rfl,by simp,?_⟩;refine AVc.keepOk (P:=fun o=>has O o=true) (Z2m hM.bound _ _).sealed (fun o ho=>Z26 _ _ ?_) hok hm hc;rintro rfl;rw[hn]at ho;cases ho
theorem Z63(P:Program)(T:TypeId)(v:Value)(w:World):(newVar T v).run P w=.ok ⟨w.heap.size,0,none⟩ (w.alloc (.cells v.cells T)):=by
 simp[newVar,newRow,newObj,Sem.run]
theorem Zcl(hE:EnvOk E){f d:Nat}{O:Obs}{T:Nat}{K:AV->Obs->Option ρ}{r:ρ}{P:Id->Prop}(hM:Mem own w G O P)(hr:∀o,pre [d] o=true->¬P o)(h:Z5w E f d O T K=some r):
   ∃a O' own' w' G' v,K a O'=some r/\(Instr.alloc T true (.tuple #[])).run E.P w=.ok v w'/\Made own w G O own' w' G' O' false a v:=by
 unfold Z5w at h;obtain⟨j,hj,h⟩:=Z5 h;have hJ:=hE.ti T j hj;obtain⟨z,cs,hz,hcs,hv⟩:=Z90 hJ;have hrun:(Instr.alloc T true (.tuple #[])).run E.P w=.ok (.pointer (some ⟨w.heap.size,0,none⟩)) (w.alloc (.cells cs.toArray T)):=by
   have hc1:=hv.cells (Zr (own:=own) (w:=w) (p:=⟨[],[],true⟩) hcs).one;unfold Instr.alloc;simp only[Sem.run_bind,hz,Result.andThen_ok,Z63,hc1,Sem.run_pure]
 split at h
 . rename_i n e xs hq;obtain⟨hp,h⟩:=Z0 h;obtain⟨hn',h⟩:=Z0 h;have hn':=Nat.le_of_ble_eq_true hn';obtain⟨hn,h⟩:=Zb h;rw[hq]at hcs;have hR:=Zr (own:=own) (w:=w) (p:=⟨[],[],true⟩) hcs;simp only[Rep]at hR;obtain⟨_,hl,hl2,h1,hel⟩:=hR;refine⟨_,_,oput own w.heap.size (.ob [d] []),_,gput G [d] ⟨.slice (some ⟨w.heap.size,0,none⟩) n n,e.size,!e.plain⟩,_,h,hrun,⟨⟨_,⟨⟨w.heap.size,0,none⟩,n,by rw[Z7],rfl⟩,rfl⟩,(Zp _ _ _ _).2 (.inl rfl),?_⟩⟩;refine Post.alloc (Q:=P) hM.objs hM.box (hr _ (Zn _)) hM.bound hn ?_ (fun a e=>by cases e);refine⟨by rw[Z7],by rw[Z7],?_⟩;rw[Z7];refine .inr ⟨w.heap.size,n,cs.toArray,by rw[hl],if_pos rfl,by simp,by omega,by simp only[maxLen];omega,by simpa using hl2,fun i y hy=>?_⟩;exact Rep.plain (Z2m hM.bound _ _).sealed _ hp (hel i y hy)
 . unfold Z9z at h;obtain⟨j',hj',h⟩:=Z5 h;rw[hj]at hj';cases hj';have hr1:∀o,pre [d,1] o=true->¬P o:=fun o ho=>hr o (Z17 [d] [1] o ho)
   obtain⟨a,O1,G1,own1,h,hmade,hac,hid,hok,hsz,hag,_⟩:=Z82 hM hr1 hcs (v:=z) (by rw[hJ.za];exact hv) h;have hno:¬(P [d]\/has O1 [d]=true):=by
     rintro(h1|h1)
     . exact hr _ (Zn _) h1
     . rcases hid _ h1 with h2|h2
       . exact hr _ (Zn _) (hM.live _ h2)
       . have:=pre_iff.1 h2;obtain⟨c,hc⟩:=this;have:=congrArg List.length hc;simp at this
   obtain⟨own2,G2,h,hm2⟩:=Z83 (T:=T) (hmade.post.mem hM) hno hac hok hmade.men h;refine⟨_,_,own2,_,G2,_,h,hrun,⟨hm2.val,hm2.men,hmade.post.thenF hm2.post fun o ho _=>hmade.post.stay rfl o ho⟩⟩
theorem Zgq {d T:Nat}{O:Obs}{a:AV}{va:Value}{K:Obs->Option ρ}{r:ρ}{P:Id->Prop}(hM:Mem own w G O P)(hr:¬P [d])(ha:AVv own w G a va)(hm:a.men fun o=>has O o=true)(hok:a.ok=true)
   (h:newK O [d] (.box a) K=some r):
   ∃own' w' G' v,K (([d],.box a)::O)=some r/\(Instr.box T va).run E.P w=.ok v w'/\Made own w G O own' w' G' (([d],.box a)::O) false (.p [d] [] 0) v:=by
 obtain⟨cs,hc,hv⟩:=ha.cells (Z7a hok);obtain⟨own2,G2,h,hm2⟩:=Z83 (T:=T) hM hr hc hok hm h;refine⟨own2,_,G2,_,h,?_,hm2⟩;unfold Instr.box;simp only[Sem.run_bind,Z63,Result.andThen_ok,hv.cells hc.one,Sem.run_pure]
theorem Z64 {tid:TypeId}{e:Ty}{xs:List e.den}{r:Id}{cells:List Value}{O:Obs}{own1:Own}{P:Id->Prop}(hM:Mem own1 w G O P)(hl:cells.length=xs.length*e.size)(hm:xs.length<=maxLen)
   (he:Elems own1 w e (fun i=>⟨r,[i],false⟩) xs cells):
   Rep (oput own1 w.heap.size (.ob r [])) (w.alloc (.cells cells.toArray tid)) (.own tid e) xs ⟨r,[],true⟩ [.slice (some ⟨w.heap.size,0,none⟩) xs.length xs.length]/\
     Post own1 (oput own1 w.heap.size (.ob r [])) w (w.alloc (.cells cells.toArray tid)) G G O O false:=by
 have hg:=Z2m hM.bound (.cells cells.toArray tid) (.ob r []);constructor
 . refine .inr ⟨w.heap.size,xs.length,cells.toArray,rfl,if_pos rfl,heap_alloc_new w _,Nat.le_refl _,hm,by simpa using hl,fun i y hy=>?_⟩;refine Rep.move hg.sealed ?_ (he i y hy);refine Mv.sub fun g q hq=>?_
   have:=hg g (by rw[hq];intro e;cases e);exact⟨this.1.trans hq,this.2⟩
 . refine⟨?_,fun _ _ h=>h,fun _ _ _=>rfl,fun _ o ho hn k hv=>?_,fun Q hb o c hc=>(hb o c hc).mono fun _ h=>.inl h,hg.sealed,fun g hlt ho=>⟨by rw[oput,if_neg (by omega)];exact ho,heap_alloc_old w _ hlt⟩,fun g hge=>?_,by simp,rfl,rfl,rfl⟩
   . exact fun o b hb=>(hM.objs o b hb).grow (P:=fun _=>True) hg rfl (fun a _=>vwK_some.AV.men.all a) fun _ _=>rfl
   . have h1:=Z8g hM.objs ho hn hv;exact(hg _ (by rw[h1];intro e;cases e)).2
   . simp at hge;rw[oput,if_neg (by omega)];exact hM.bound g (by omega)
theorem Zfb {T:TypeId}{t:Ty}{x:t.den}{r:Id}{cells:List Value}{O:Obs}{own1:Own}{P:Id->Prop}{p:Pos}(hM:Mem own1 w G O P)(ht:t.plain=true)(hx:Rep own1 w t x p cells):
   Rep (oput own1 w.heap.size (.ob r [])) (w.alloc (.cells cells.toArray T)) (.bx t) x ⟨r,[],true⟩ [.pointer (some ⟨w.heap.size,0,none⟩)]/\
     Post own1 (oput own1 w.heap.size (.ob r [])) w (w.alloc (.cells cells.toArray T)) G G O O false:=by
 have hg:=Z2m hM.bound (.cells cells.toArray T) (.ob r []);constructor
 . exact⟨w.heap.size,cells.toArray,T,rfl,if_pos rfl,heap_alloc_new w _,Rep.plain hg.sealed _ ht hx⟩
 . refine⟨?_,fun _ _ h=>h,fun _ _ _=>rfl,fun _ o ho hn k hv=>?_,fun Q hb o c hc=>(hb o c hc).mono fun _ h=>.inl h,hg.sealed,fun g hlt ho=>⟨by rw[oput,if_neg (by omega)];exact ho,heap_alloc_old w _ hlt⟩,fun g hge=>?_,by simp,rfl,rfl,rfl⟩
   . exact fun o b hb=>(hM.objs o b hb).grow (P:=fun _=>True) hg rfl (fun a _=>vwK_some.AV.men.all a) fun _ _=>rfl
   . have h1:=Z8g hM.objs ho hn hv;exact(hg _ (by rw[h1];intro e;cases e)).2
   . simp at hge;rw[oput,if_neg (by omega)];exact hM.bound g (by omega)
theorem Zfc {f d T:Nat}{O:Obs}{t:Ty}{y:t.den}{va:Value}{K:AV->Obs->Option ρ}{r:ρ}{P:Id->Prop}(hM:Mem own w G O P)(hr:∀o,pre [d] o=true->¬P o)(ha:AVv own w G (.v t y) va)(hok:(AV.v t y).ok=true)(ht:t.plain=true)
   (h:mkK E f d [d] O (.bx t) y K=some r):
   ∃a O' own' w' G' v,K a O'=some r/\(Instr.box T va).run E.P w=.ok v w'/\Made own w G O own' w' G' O' false a v:=by
 obtain⟨cs,hc,hv⟩:=ha.cells (Z7a hok);obtain⟨p,hrep0⟩:∃p,Rep own w t y p cs:=⟨_,hc.2⟩
 obtain⟨hrep,hpost⟩:=Zfb (T:=T) (r:=[d]) hM ht hrep0;obtain⟨a,O',G',own',h,hmade,_⟩:=Z2n (P:=P) ⟨hpost.objs,fun o c hc=>hM.box o c hc,hM.live,hpost.bound,Base.keep hM.base hpost.sealed⟩ hr hrep rfl h;refine⟨a,O',own',_,G',_,h,?_,hmade.val,hmade.men,hpost.thenF hmade.post fun o ho _=>ho⟩;unfold Instr.box;simp only[Sem.run_bind,Z63,Result.andThen_ok,hv.cells hc.one,Sem.run_pure]
end Go.Pv
namespace Go.Pv
open Go Go.Great
variable {own own' own1 own2:Own}{w w' w1 w2:World}{G G' G1 G2:Gs}{ρ:Type}{E:Env}[Base]
theorem Zcm {c1 c2 c3 ds:List Value}(hl:c2.length=ds.length):
   ds.zipIdx.foldl (fun cs(x:Value×Nat)=>cs.setIfInBounds (c1.length+x.2) x.1) (c1++(c2++c3)).toArray=(c1++(ds++c3)).toArray:=by
 obtain⟨h1,h2⟩:=foldl_set c1.length ds 0 (c1++(c2++c3)).toArray;apply Array.ext_getElem?;intro k;rw[h2 k];simp only[List.size_toArray,List.length_append,List.getElem?_toArray,Nat.add_zero];by_cases hk:k<c1.length
 . rw[if_neg (by omega),List.getElem?_append_left hk,List.getElem?_append_left hk]
 . rw[List.getElem?_append_right (by omega),List.getElem?_append_right (l₁:=c1) (l₂:=ds++c3) (by omega)];by_cases hk2:k<c1.length+ds.length
   . rw[if_pos (by omega),List.getElem?_append_left (l₁:=ds) (by omega)]
   . rw[if_neg (by omega),List.getElem?_append_right (by omega),List.getElem?_append_right (l₁:=ds) (by omega),hl]
theorem Z84 {P:Program}:∀{fs:List Field},(∀f∈fs,∃j,TIok P j f.type)->∃places,fs.mapM (fun f=>(P.info? f.type).map fun i=>(f.offset,i.size))=some places/\
   ∀(k:Nat)(f:Field)(j:TI),fs[k]?=some f->TIok P j f.type->places[k]?=some (f.offset,j.size)
 |[],_=>⟨[],rfl,fun k f j h _=>by simp at h⟩
 | f ::fs,h=>by
   obtain⟨places,h1,h2⟩:=Z84 (fs:=fs) fun g hg=>h g (List.mem_cons_of_mem _ hg)
   obtain⟨j,hj⟩:=h f List.mem_cons_self;obtain⟨inf,z,cs,i1,i2,i3,i4,i5,i6⟩:=hj.info;refine⟨(f.offset,inf.size)::places,by simp[List.mapM_cons,i1,h1],fun k g j' hg hj'=>?_⟩;cases k with
   | zero=>
     simp only[List.getElem?_cons_zero,Option.some.injEq]at hg;subst hg;obtain⟨inf',z',cs',k1,k2,_⟩:=hj'.info;rw[i1]at k1;cases k1;simp[k2]
   |succ k=>exact h2 k g j' (by simpa using hg) hj'
theorem Z85(hE:EnvOk E){T:Nat}{fields:Array Field}(hT:E.P.underlying T=some (.struct fields)){place:Nat->Option (Nat×Nat)}(hp:∀(k:Nat)(f:Field)(j:TI),fields[k]?=some f->TIok E.P j f.type->place k=some (f.offset,j.size))
   {ev:Operand->AV} {V:Operand->Value} {P:Id->Prop}:∀{l:List (Nat×Operand)}{a:AV}{cs:List Value}{K:AV->Option ρ}{r:ρ},(∀x∈l.map (·.2),AVv own w G (ev x) (V x)/\(ev x).men P)->AVc own w G a cs->a.men P->a.agg=true->Z3o E T ev a l K=some r->
     ∃b ds,K b=some r/\Instr.fill place cs.toArray (l.map fun x=>(x.1,V x.2))=some ds.toArray/\AVc own w G b ds/\b.men P/\b.agg=true
 |[],a,cs,K,r,hx,ha,hm,hg,h=>⟨a,cs,h,rfl,ha,hm,hg⟩
 | (i,x)::l,a,cs,K,r,hx,ha,hm,hg,h=>by
   simp only[Z3o]at h;obtain⟨fields',fd,j,hT',hfd,hj,hsz,hoff,h0,h⟩:=Z21 hE h;rw[hT]at hT';cases hT';have hx1:=hx x (by simp);rw[hsz]at h;obtain⟨hxs,h⟩:=Z0 h;have hxs:=Z2 hxs;obtain⟨b0,h,hagg0,h'⟩:=Z34 h;obtain⟨ds,hds⟩:∃ds,(ev x).ok=true->AVc own w G (ev x) ds/\IsVal (ev x).agg ds (V x):=by
     cases hok:(ev x).ok
     . exact⟨[],fun e=>by cases e⟩
     . obtain⟨cs,h1,h2⟩:=hx1.1.cells (Z7a hok);exact⟨cs,fun _=>⟨h1,h2⟩⟩
   obtain⟨b,c1,c2,c3,hbb,hok,rfl,hlen,hl2,hb,hbm,hbs,hoo⟩:=Z20 (P:=P) ha hm (fun e=>(hds e).1) hx1.2 h';cases hbb;obtain⟨hxc,hxv⟩:=hds hok;have hagg:b0.agg=true:=hagg0 (by cases i<;>simp[fld]);obtain⟨b',ds',h,hf,hb',hbm',hg'⟩:=Z85 hE hT hp (fun y hy=>hx y (List.mem_cons_of_mem _ hy)) hb hbm hagg h;refine⟨b',ds',h,?_,hb',hbm',hg'⟩;have hc:=hxv.cells hxc.one;simp only[List.map_cons,Instr.fill,hp i fd j hfd hj];have hdl:ds.length=j.size:=hxc.length.trans hxs;rw[hc];simp only[List.size_toArray,hdl,ne_eq,not_true_eq_false,Bool.or_eq_true,decide_eq_true_eq,false_or];rw[if_neg (by simp only[List.length_append];omega)];rw[<-hoff,<-hlen,Array.zipIdx_toArray];have:=Zcm (c1:=c1) (c2:=c2) (c3:=c3) (ds:=ds) hl2;simpa[this]using hf
theorem AVv.post {O O':Obs}{a:AV}{v:Value}(hp:Post own own' w w' G G' O O' false)(ha:AVv own w G a v)(hm:a.men fun o=>has O o=true):AVv own' w' G' a v/\a.men fun o=>has O' o=true:=
 ⟨AVv.keep hp.sealed (P:=fun o=>has O o=true) (fun o ho=>⟨hp.same o ho (hp.stay rfl o ho),hp.nest rfl o ho⟩) hm ha,hm.mono fun o ho=>hp.stay rfl o ho⟩
theorem Z91(hE:EnvOk E):∀{fs:List (Nat×Nat)},Zc8 E fs=true->∀q∈fs,∃j,TIok E.P j q.2
 |[],_,_,hq=>by simp at hq
 | (o,T)::fs,h,q,hq=>by
   simp only[Zc8]at h;split at h
   . rename_i j hj;rcases List.mem_cons.1 hq with rfl|hq
     . exact⟨j,hE.ti T j hj⟩
     . exact Z91 hE h q hq
   . cases h
theorem Zdx(hE:EnvOk E){d T:Nat}{i:TI}(hi:E.ti T=some i){fs:List (Nat×Nat)}(hd:i.d=.struct fs)(hall:Zc8 E fs=true){O:Obs}{P:Id->Prop}(hM:Mem own w G O P)(hr:∀o,pre [d] o=true->¬P o){ps:Array (Nat×Operand)}{ev:Operand->AV}{V:Operand->Value}
   (hx:∀x∈ps.toList.map (·.2),AVv own w G (ev x) (V x)/\(ev x).men fun o=>has O o=true) {K:AV->Obs->Option ρ} {r:ρ} (h:unpK i.zero.t i.zero.x [d,1] O (fun a O'=>Z3o E T ev a ps.toList fun b=>K b O')=some r):
   ∃a O' G' v,K a O'=some r/\(Instr.build T (ps.map fun(i,x)=>(i,V x))).run E.P w=.ok v w/\Made own w G O own w G' O' false a v:=by
 have hI:=hE.ti T i hi;obtain⟨dd,hdd,hk,hg⟩:=hI.und;rw[hd]at hk;obtain⟨fields,rfl,hfs⟩:=hk;have hg:i.agg=true:=hg;obtain⟨inf,z,cs,h1,h2,h3,h4,h5,h6⟩:=hI.info;rw[hg]at h6;have h6:z=.agg cs.toArray:=h6;subst h6;have hr1:∀o,pre [d,1] o=true->¬P o:=fun o ho=>hr o (Z17 [d] [1] o ho)
 obtain⟨a,O1,h,hag,he⟩:=Z4j h;obtain⟨a',O',G',hk,u⟩:=Z2a (K:=fun a1 O1=>some (a1,O1)) (res:=(a,O1)) (P:=P) (Zr (own:=own) (w:=w) (p:=⟨[d,1],[],true⟩) h5) hM.objs hM.box hr1 (he _);cases hk;have hp:=u.post hM.bound (fun o ho=>Bool.eq_false_iff.2 fun e=>hr1 o ho (hM.live o e));obtain⟨places,hpl,hpl2⟩:=Z84 (P:=E.P) (fs:=fields.toList) fun f hf=>by
   obtain⟨j,hj⟩:=Z91 hE hall (f.offset,f.type) (by rw[<-hfs];exact List.mem_map.2 ⟨f,hf,rfl⟩);exact⟨j,hj⟩
 obtain⟨b,ds,h,hf,hb,hbm,hbg⟩:=Z85 hE hdd (place:=fun k=>places[k]?) (fun k f j hk hj=>hpl2 k f j (by simpa using hk) hj) (P:=fun o=>has O1 o=true) (V:=V)
   (fun x hx'=>AVv.post hp (hx x hx').1 (hx x hx').2) u.rep (u.men.mono fun _ h=>h.1) (by rw[hag,hI.za,hg]) h
 refine⟨b,O1,G',.agg ds.toArray,h,run_build w T _ _ ?_,⟨.of hb (by rw[hbg];rfl),hbm,hp⟩⟩;unfold Program.built;simp only[h1,hdd,h4,hpl,Value.cells];simpa using hf
theorem Z5u {z:List Value}{s n i:Nat}(hz:z.length=s)(hi:i<n):((madeCells z.toArray (n*s)).toList.drop (i*s)).take s=z:=by
 apply List.ext_getElem?;intro k;rw[List.getElem?_take];split
 . rename_i hk;have h1:i*s+s<=n*s:=by
     have:=Nat.mul_le_mul_right s (Nat.succ_le_of_lt hi);rw[Nat.succ_mul]at this;exact this
   rw[List.getElem?_drop];simp only[madeCells,Array.toList_map,Array.toList_range,List.getElem?_map];rw[List.getElem?_range (by omega)];have h2:(i*s+k)% s=k:=by rw[Nat.mul_comm,Nat.mul_add_mod,Nat.mod_eq_of_lt hk]
   simp only[Option.map_some,List.size_toArray,hz,h2];rw[List.getElem?_eq_getElem (by omega)];simp[hz,hk]
 . rename_i hk;rw[List.getElem?_eq_none (by omega)]
theorem Z92 {f d T e:Nat}{j:TI}(hT:E.P.underlying T=some (.slice e))(hj:TIok E.P j e){O:Obs}{P:Id->Prop}(hM:Mem own w G O P)(hr:∀o,pre [d] o=true->¬P o){n:Int}(h0:0<=n)(hb:n*j.bytes<=281474976710656)(hw:(Lit.int .i64 n).wf=true)
   {K:AV->Obs->Option ρ} {r:ρ} (h:mkK E f d [d] O (.own e j.zero.t) (List.replicate n.toNat j.zero.x) K=some r):
   ∃a O' own' w' G' v,K a O'=some r/\(Instr.makeSlice T (.int .i64 n) (.int .i64 n)).run E.P w=.ok v w'/\Made own w G O own' w' G' O' false a v:=by
 obtain⟨inf,z,cs,h1,h2,h3,h4,h5,h6⟩:=hj.info;have hlit:=Zr (own:=own) (w:=w) (p:=⟨[],[],true⟩) h5;have hzl:cs.length=j.zero.t.size:=hlit.length;have hzc:z.cells=cs.toArray:=h6.cells hlit.one;have hmax:n<=9223372036854775807:=by
   simp only[Lit.wf,Bool.and_eq_true,decide_eq_true_eq]at hw;have:IntKind.i64.max=9223372036854775807:=rfl;omega
 have hrun:=run_make (P:=E.P) w T e inf z hT h1 h4 .i64 .i64 n n h0 (Int.le_refl _) (by rw[h3,Int.mul_comm];exact hb) hmax;rw[h2,<-hj.zt,hzc]at hrun;obtain⟨hrep,hpost⟩:=Z64 (tid:=e) (e:=j.zero.t) (xs:=List.replicate n.toNat j.zero.x) (r:=[d]) (cells:=(madeCells cs.toArray (n.toNat*j.zero.t.size)).toList) hM (by rw[Array.length_toList,size_madeCells,List.length_replicate]) (by rw[List.length_replicate];simp only[maxLen];omega) (fun i y hy=>by
   have hi:i<n.toNat:=by have:=(List.getElem?_eq_some_iff.1 hy).1;simpa using this
   rw[Z5u hzl hi];have:y=j.zero.x:=by
     rw[List.getElem?_replicate,if_pos hi]at hy;exact(Option.some.inj hy).symm
   rw[this];exact Zr h5)
 rw[List.length_replicate,Array.toArray_toList]at hrep;rw[Array.toArray_toList]at hrep hpost;obtain⟨a,O',G',own',h,hmade,_⟩:=Z2n (P:=P) ⟨hpost.objs,fun o c hc=>hM.box o c hc,hM.live,hpost.bound,Base.keep hM.base hpost.sealed⟩ hr hrep rfl h;exact⟨a,O',own',_,G',_,h,hrun,hmade.val,hmade.men,hpost.thenF hmade.post fun o ho _=>ho⟩
end Go.Pv
