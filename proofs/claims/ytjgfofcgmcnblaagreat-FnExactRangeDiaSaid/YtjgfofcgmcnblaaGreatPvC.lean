/- Appends, literals, calls. No condition. -/
import Derived.Test.YtjgfofcgmcnblaaGreatPvB
set_option linter.unusedVariables false
set_option linter.unusedSectionVars false
namespace Go.Pv
open Go Go.Great
variable {own own' own1 own2:Own}{w w' w1 w2:World}{G G' G1 G2:Gs}{ρ:Type}{E:Env}[Base]
theorem Z65:∀{a:AV}{O:Obs}{K:(t:Ty)->t.den->Obs->Option ρ}{r:ρ},pkK a O K=some r->
   ∃u y O1,K u y O1=some r/\u.agg=a.agg/\a.cel=true/\∀{σ:Type}(K':(t:Ty)->t.den->Obs->Option σ),pkK a O K'=K' u y O1
 |.v t x,O,K,r,h=>⟨_,_,_,h,rfl,rfl,fun _=>rfl⟩
 |.hole n,O,K,r,h=>⟨_,_,_,h,by simp only[Ty.agg,AV.agg];cases Nat.beq n 1<;>rfl,rfl,fun _=>rfl⟩
 | .pr a b,O,K,r,h=>by
   simp only[pkK]at h⊢;obtain⟨u,y,O1,h,_,_,e1⟩:=Z65 h;obtain⟨v,z,O2,h,_,_,e2⟩:=Z65 h;exact⟨_,_,_,h,rfl,rfl,fun K'=>by rw[e1,e2]⟩
 | .ref o,O,K,r,h=>by
   simp only[pkK]at h⊢;split at h
   . rename_i tid e xs hl;rw[Z4]at h;exact⟨_,_,_,h,rfl,rfl,fun K'=>by simp only[Z4]⟩
   . rename_i tid k v es hl;rw[Z4]at h;exact⟨_,_,_,h,rfl,rfl,fun K'=>by simp only[Z4]⟩
   . cases h
 |.dead,_,_,_,h=>by simp only[pkK]at h;cases h
 |.tn,_,_,_,h=>by simp only[pkK]at h;cases h
 |.tp _ _,_,_,_,h=>by simp only[pkK]at h;cases h
 |.hs _ _ _,_,_,_,h=>by simp only[pkK]at h;cases h
 |.p _ _ _,_,_,_,h=>by simp only[pkK]at h;cases h
 |.e _ _ _ _,_,_,_,h=>by simp only[pkK]at h;cases h
 |.s _ _ _,_,_,_,h=>by simp only[pkK]at h;cases h
 |.ap _ _,_,_,_,h=>by simp only[pkK]at h;cases h
 |.cl _ _,_,_,_,h=>by simp only[pkK]at h;cases h
theorem Zgr {a:AV}{O:Obs}{K:(t:Ty)->t.den->Obs->Option ρ}{r:ρ}(h:pkE a O K=some r):
   ∃u y O1,K u y O1=some r/\u.agg=a.agg/\a.cel=true/\∀{σ:Type}(K':(t:Ty)->t.den->Obs->Option σ),pkE a O K'=K' u y O1:=by
 by_cases hn:∃o n,a=.hs o 0 n
 . obtain⟨o,n,rfl⟩:=hn;simp only[pkE]at h⊢;split at h
   . rename_i tid e xs hl;rw[Z4]at h;exact⟨_,_,_,h,rfl,rfl,fun K'=>by simp only[Z4]⟩
   . cases h
 . have hp:∀{σ:Type}(K':(t:Ty)->t.den->Obs->Option σ),pkE a O K'=pkK a O K':=fun K'=>by
     unfold pkE;split
     . exact(hn ⟨_,_,rfl⟩).elim
     . rfl
   rw[hp]at h;obtain⟨u,y,O1,h1,h2,h3,h4⟩:=Z65 h;exact⟨u,y,O1,h1,h2,h3,fun K'=>by rw[hp,h4]⟩
theorem Z18(t:Ty)(x:t.den)(K:t.den->Option ρ):Ze t t x K=K x:=by
 unfold Ze;rw[dif_pos rfl];rfl
def rfL(L:List AV)(o:Id):Prop:=∃a∈L,a.rf o
def disL:List AV->Prop
 |[]=>True
 |a::L=>a.dis/\disL L/\∀o,a.rf o->rfL L o->False
structure LessL (L:List AV) (O O':Obs):Prop where
 there:∀o,rfL L o->has O o=true
 gone:∀o,rfL L o->look O' o=none
 kept:∀o,¬rfL L o->look O' o=look O o
theorem rfL_cons {a:AV}{L:List AV}{o:Id}:rfL (a::L) o↔a.rf o\/rfL L o:=by
 simp[rfL]
theorem LessL.cons {a:AV}{L:List AV}{O O1 O2:Obs}(h1:Less a O O1)(h2:LessL L O1 O2):LessL (a::L) O O2/\∀o,a.rf o->rfL L o->False:=by
 have hd:∀o,a.rf o->rfL L o->False:=fun o ha hb=>by
   have:=h2.there o hb;obtain⟨_,e⟩:=has_look.1 this;rw[h1.gone o ha]at e;cases e
 refine⟨⟨fun o ho=>?_,fun o ho=>?_,fun o ho=>?_⟩,hd⟩
 . rcases rfL_cons.1 ho with ho|ho
   . exact h1.there o ho
   . obtain⟨b,hb⟩:=has_look.1 (h2.there o ho);by_cases ha:a.rf o
     . exact(hd o ha ho).elim
     . rw[h1.kept o ha]at hb;exact Z1 hb
 . rcases rfL_cons.1 ho with ho|ho
   . rw[h2.kept o (fun hb=>hd o ho hb),h1.gone o ho]
   . exact h2.gone o ho
 . have hn:=fun h=>ho (rfL_cons.2 h)
   rw[h2.kept o (fun h=>hn (.inr h)),h1.kept o (fun h=>hn (.inl h))]
def relL:List AV->Nat->Id->Id->List Nat->Option Lb
 |[],_,_,_,_=>none
 | a::L,k,d,j,s=>match a.rel ⟨d,[k],false⟩ j s with
   |some m=>some m
   |none=>relL L (k+1) d j s
theorem Zae:∀{L:List AV}{k:Nat}{d j:Id}{s:List Nat},¬rfL L j->relL L k d j s=none
 |[],_,_,_,_,_=>rfl
 | a::L,k,d,j,s,h=>by
   simp only[relL];rw[AV.rel_none (fun ha=>h (rfL_cons.2 (.inl ha))),Zae (fun hb=>h (rfL_cons.2 (.inr hb)))]
theorem Zcn:∀{L:List AV}{k n:Nat}{a:AV}{d j:Id}{s:List Nat}{l:Lb},disL L->L[n]?=some a->a.rel ⟨d,[k+n],false⟩ j s=some l->relL L k d j s=some l
 | b::L,k,0,a,d,j,s,l,hd,hn,h=>by
   simp only[List.getElem?_cons_zero,Option.some.injEq]at hn;subst hn;simp only[relL];rw[Nat.add_zero]at h;rw[h]
 | b::L,k,n+1,a,d,j,s,l,hd,hn,h=>by
   simp only[List.getElem?_cons_succ]at hn;simp only[relL];have hj:a.rf j:=Classical.byContradiction fun hb=>by rw[AV.rel_none hb]at h;cases h
   have:¬b.rf j:=fun hb=>hd.2.2 j hb ⟨a,List.mem_of_getElem? hn,hj⟩
   rw[AV.rel_none this];exact Zcn hd.2.1 hn (by rw[show k+1+n=k+(n+1) by omega];exact h)
theorem Zco:∀{L:List AV}{n:Nat}{a:AV},disL L->L[n]?=some a->a.dis
 | _::_,0,_,h,e=>by simp only[List.getElem?_cons_zero,Option.some.injEq]at e;subst e;exact h.1
 | _::_,n+1,_,h,e=>Zco h.2.1 (by simpa using e)
def Z2h(own:Own)(L:List AV)(k:Nat)(d:Id):Own:=fun g=>match own g with
 | .ob j s=>match relL L k d j s with
   |some l=>l
   |none=>.ob j s
 |l=>l
theorem Zcp {L:List AV}{k n:Nat}{d:Id}{a:AV}(hd:disL L)(hn:L[n]?=some a):Mvs own w (Z2h own L k d) w a ⟨d,[k+n],false⟩:=
 Mvs.of (Zco hd hn) fun g i s l hg hl=>⟨by simp only[Z2h,hg,Zcn hd hn hl],rfl⟩
theorem Zbp {L:List AV}{k:Nat}{d:Id}{O O1:Obs}{P:Id->Prop}(hM:Mem own w G O P)(hl:LessL L O O1):Post own (Z2h own L k d) w w G G O O1 true:=by
 refine Post.rest hM (fun o b hb=>?_) (fun g hg=>⟨by simp only[Z2h,hg],rfl⟩) (fun g o s hg ho=>⟨?_,rfl⟩) (fun g _ hg=>⟨by simp only[Z2h,hg],rfl⟩) (fun g hg=>by simp only[Z2h,hM.bound g hg]) (Nat.le_refl _) rfl rfl rfl
 . by_cases hr:rfL L o
   . rw[hl.gone o hr]at hb;cases hb
   . rw[<-hl.kept o hr];exact hb
 . have hr:¬rfL L o:=fun hr=>by
     obtain⟨b,hb⟩:=has_look.1 ho;rw[hl.gone o hr]at hb;cases hb
   simp only[Z2h,hg,Zae hr]
theorem Z86 {ev:Operand->AV}{V:Operand->Value}{e:Ty}:∀{l:List (Nat×Operand)}{O:Obs}{j:Nat}{K:List e.den->Obs->Option ρ}{r:ρ},(∀x∈l.map (·.2),AVv own w G (ev x) (V x))->Objs own w G O->Z3p ev e O l j K=some r->
   ∃ ys O',K ys O'=some r/\ys.length=l.length/\l.map (·.1)=List.range' j l.length/\LessL (l.map fun x=>ev x.2) O O'/\disL (l.map fun x=>ev x.2)/\
     ∀ {own':Own}{w':World}{d:Id},Sealed own w own' w'->(∀n a,(l.map fun x=>ev x.2)[n]?=some a->Mvs own w own' w' a ⟨d,[j+n],false⟩)->
       ∀(n:Nat)(y:e.den)(x:Nat×Operand),ys[n]?=some y->l[n]?=some x->∃cs,IsVal e.agg cs (V x.2)/\Rep own' w' e y ⟨d,[j+n],false⟩ cs
 |[],O,j,K,r,hx,hO,h=>⟨[],O,h,rfl,rfl,⟨fun o ho=>by simp[rfL]at ho,fun o ho=>by simp[rfL]at ho,fun _ _=>rfl⟩,trivial,fun _ _ n y x hy=>by simp at hy⟩
 | (i, x)::l,O,j,K,r,hx,hO,h=>by
   simp only[Z3p]at h;obtain⟨hij,h⟩:=Z0 h;have hij:=Z2 hij;subst hij;have hx0:=hx x (by simp);obtain⟨u,y,O1,h,hag,hcel,he⟩:=Zgr h;obtain⟨cs,hc,hv⟩:=hx0.cells hcel;obtain⟨u',y',O1',hk,hless,hdis,hrep⟩:=Zge (K:=fun u y O1=>some (⟨⟨u,y⟩,O1⟩:(Σ u:Ty,u.den)×Obs)) (r:=⟨⟨u,y⟩,O1⟩) hc hO (he _);simp only[Option.some.injEq,Prod.mk.injEq,Sigma.mk.injEq]at hk;obtain⟨⟨rfl,hyy⟩,rfl⟩:=hk;cases hyy;obtain⟨hue,h⟩:=Z3 h;subst hue;obtain⟨ys,O2,h,hlen,hidx,hless2,hdis2,hrep2⟩:=Z86 (fun z hz=>hx z (List.mem_cons_of_mem _ hz)) (hO.less hless) h;obtain⟨hl3,hd3⟩:=LessL.cons hless hless2;refine⟨_,O2,h,by simp[hlen],by simp[hidx,List.range'_succ],hl3,⟨hdis,hdis2,hd3⟩,fun {own'}{w'}{d} hs hm n y2 x2 hy2 hx2=>?_⟩;cases n with
   | zero=>
     simp only[List.getElem?_cons_zero,Option.some.injEq]at hy2 hx2;subst hy2 hx2;exact⟨cs,by rw[hag];exact hv,hrep hs (hm 0 _ rfl)⟩
   | succ n=>
     simp only[List.getElem?_cons_succ]at hy2 hx2;have:=hrep2 hs (d:=d) (fun m a hma=>by
       have:=hm (m+1) a (by simpa using hma);rwa[show i+(m+1)=i+1+m by omega]at this) n y2 x2 hy2 hx2
     rwa[show i+(n+1)=i+1+n by omega]
theorem Zcq {s:Nat}:∀{css:List (List Value)}{n:Nat}{cs:List Value},(∀c∈css,c.length=s)->css[n]?=some cs->(css.flatten.drop (n*s)).take s=cs
 | c::css,0,cs,h,hn=>by
   simp only[List.getElem?_cons_zero,Option.some.injEq]at hn;subst hn;have:=h c List.mem_cons_self;simp[<-this]
 | c::css,n+1,cs,h,hn=>by
   have hc:=h c List.mem_cons_self;have:=Zcq (css:=css) (n:=n) (fun c hc=>h c (List.mem_cons_of_mem _ hc)) (by simpa using hn);rw[Nat.succ_mul,List.flatten_cons,Nat.add_comm,<-List.drop_drop];rw[<-hc]at this⊢;rw[List.drop_left];exact this
 |[],n,cs,h,hn=>by simp at hn
theorem Zgs {f d T e:Nat}{j:TI}(hT:E.P.underlying T=some (.slice e))(hj:TIok E.P j e){O:Obs}{P:Id->Prop}(hM:Mem own w G O P)(hr:∀o,pre [d] o=true->¬P o){n:Nat}{ps:Array (Nat×Operand)}{ev:Operand->AV}{V:Operand->Value}{u:Ty}
   (hu:u.size=j.size) (hn:ps.toList.length=n) (h0:¬n*j.size=0) (hb:n*j.size<=16777216)
   (hx:∀x∈ps.toList.map (·.2),AVv own w G (ev x) (V x)) {K:AV->Obs->Option ρ} {r:ρ} (h:Z3p ev u O ps.toList 0 (fun ys O2=>mkK E f d [d] O2 (.own e u) ys K)=some r):
   ∃a O' own' w' G' v,K a O'=some r/\(Instr.buildSlice T n (ps.map fun(i,x)=>(i,V x))).run E.P w=.ok v w'/\Made own w G O own' w' G' O' true a v:=by
 obtain⟨ys,O1,h,hlen,hidx,hless,hdis,hrep⟩:=Z86 hx hM.objs h;have hp1:=Zbp (k:=0) (d:=[d]) hM hless;have hrep:=hrep hp1.sealed (d:=[d]) fun n a hna=>Zcp hdis hna
 have hs0:0<u.size:=by
   rcases Nat.eq_zero_or_pos u.size with h|h
   . rw[<-hu,h]at h0;simp at h0
   . exact h
 have hcells:∀m,m<ys.length->∃cs,∃y x,ys[m]?=some y/\ps.toList[m]?=some x/\IsVal u.agg cs (V x.2)/\Rep (Z2h own (ps.toList.map fun x=>ev x.2) 0 [d]) w u y ⟨[d],[0+m],false⟩ cs:=by
   intro m hm;have hm2:m<ps.toList.length:=by omega
   obtain⟨cs,h1,h2⟩:=hrep m _ _ (List.getElem?_eq_getElem hm) (List.getElem?_eq_getElem hm2);exact⟨cs,_,_,List.getElem?_eq_getElem hm,List.getElem?_eq_getElem hm2,h1,h2⟩
 let vs:List Value:=ps.toList.map fun x=>V x.2
 have hvs:∀m x,ps.toList[m]?=some x->(V x.2).cells.size=u.size/\∀y,ys[m]?=some y->Rep (Z2h own (ps.toList.map fun x=>ev x.2) 0 [d]) w u y ⟨[d],[0+m],false⟩ (V x.2).cells.toList:=by
   intro m x hmx;have hm:m<ys.length:=by have:=(List.getElem?_eq_some_iff.1 hmx).1;omega
   obtain⟨cs,y,x',h1,h2,h3,h4⟩:=hcells m hm;rw[hmx]at h2;cases h2;have hc:=h3.cells h4.one;rw[hc];refine⟨by simpa using h4.length,fun y' hy'=>?_⟩;rw[h1]at hy';cases hy';exact h4
 have hvl:∀v∈vs,v.cells.size=u.size:=by
   intro v hv;obtain⟨x,hx,rfl⟩:=List.mem_map.1 hv;obtain⟨m,hm⟩:=List.getElem?_of_mem hx;exact(hvs m x hm).1
 obtain⟨inf,z,zc,i1,i2,i3,i4,i5,i6⟩:=hj.info;have hfill:=fill_whole hs0 vs ((Array.range (n*inf.size)).map (z.cells[· % z.cells.size]!)) hvl (by
   simp only[vs,List.length_map,hn,Array.size_map,Array.size_range,i2,hu])
 have hparts:(ps.map fun(i,x)=>(i,V x)).toList=(vs.zipIdx 0).map fun x=>(x.2,x.1):=by
   apply List.ext_getElem?;intro m;simp only[Array.toList_map,List.getElem?_map,List.getElem?_zipIdx,vs,Nat.zero_add];have hi:(ps.toList.map (·.1))[m]?=(List.range' 0 ps.toList.length)[m]?:=by rw[hidx]
   rw[List.getElem?_map]at hi;cases hp:ps.toList[m]? with
   |none=>simp
   | some q=>
     rw[hp]at hi;have hlt:=(List.getElem?_eq_some_iff.1 hp).1;rw[List.getElem?_range' hlt]at hi;simp only[Option.map_some,Option.some.injEq,Nat.zero_add,Nat.one_mul]at hi;simp[hi]
 have hrun:=run_buildSlice (P:=E.P) w T e n (ps.map fun(i,x)=>(i,V x)) _ inf z hT i1 i4 (by rw[i2];omega) (by rw[i2];exact h0) (by rw[hparts,i2,<-hu];rw[i2,<-hu]at hfill;exact hfill);have hflat:(vs.flatMap fun v=>v.cells.toList)=(vs.map fun v=>v.cells.toList).flatten:=by rw[List.flatMap_def]
 have hl1:ys.length=n:=by omega
 have hcl:∀c∈vs.map (fun v=>v.cells.toList),c.length=u.size:=fun c hc=>by
   obtain⟨v,hv,rfl⟩:=List.mem_map.1 hc;simpa using hvl v hv
 have htot:(vs.flatMap fun v=>v.cells.toList).length=ys.length*u.size:=by
   rw[hflat,List.length_flatten];have:(vs.map fun v=>v.cells.toList).map List.length=List.replicate vs.length u.size:=by
     apply List.eq_replicate_iff.2;refine⟨by simp,fun b hb=>?_⟩;obtain⟨c,hc,rfl⟩:=List.mem_map.1 hb;exact hcl c hc
   rw[this];simp[vs,hn,hl1]
 have hM1:Mem (Z2h own (ps.toList.map fun x=>ev x.2) 0 [d]) w G O1 P:=⟨hp1.objs,fun o c hc=>?_,fun o ho=>?_,hp1.bound,Base.keep hM.base hp1.sealed⟩
 . obtain⟨hrow,hpost⟩:=Z64 (tid:=e) (e:=u) (xs:=ys) (r:=[d]) (cells:=vs.flatMap fun v=>v.cells.toList) hM1 htot (by simp only[maxLen];have:=Nat.le_mul_of_pos_right n (show 0<j.size by omega);omega) (fun m y hy=>by
     have hm:=(List.getElem?_eq_some_iff.1 hy).1;have hm2:m<ps.toList.length:=by omega
     have h3:=(hvs m _ (List.getElem?_eq_getElem hm2)).2 y hy;rw[Nat.zero_add]at h3;rw[hflat,Zcq hcl (cs:=(V ps.toList[m].2).cells.toList) (by simp only[vs,List.map_map,List.getElem?_map,List.getElem?_eq_getElem hm2];rfl)];exact h3)
   rw[hl1]at hrow;obtain⟨a,O',G',own',h,hmade,_,hnew,_⟩:=Z2n (P:=P) ⟨hpost.objs,fun o c hc=>hM1.box o c hc,hM1.live,hpost.bound,Base.keep hM1.base hpost.sealed⟩ hr hrow rfl h;refine⟨a,O',own',_,G',_,h,hrun,hmade.val,hmade.men,(hp1.thenF hpost fun o _ ho=>ho).thenF hmade.post fun o ho ho2=>?_⟩;rcases hnew o ho2 with h1|h1
   . exact h1
   . exact(hr o h1 (hM.live o ho)).elim
 . by_cases hf:rfL (ps.toList.map fun x=>ev x.2) o
   . rw[hless.gone o hf]at hc;cases hc
   . rw[hless.kept o hf]at hc;exact hM.box o c hc
 . obtain⟨b,hb⟩:=has_look.1 ho;by_cases hf:rfL (ps.toList.map fun x=>ev x.2) o
   . rw[hless.gone o hf]at hb;cases hb
   . rw[hless.kept o hf]at hb;exact hM.live o (Z1 hb)
end Go.Pv
namespace Go.Pv
open Go Go.Great
variable {own own' own1 own2:Own}{w w' w1 w2:World}{G G' G1 G2:Gs}{ρ:Type}{E:Env}[Base]
theorem Zbq {P:Program}{T T' e e':TypeId}(hT:P.underlying T=some (.slice e))(hT':P.underlying T'=some (.slice e'))(ty:TypeId)(b:Option Addr)(n c:Nat)(x:Value)(w:World):
   (Builtin.append_ #[T,T'] ty #[.slice b n c,x]).run P w=(Builtin.append_ #[T,T] ty #[.slice b n c,x]).run P w:=by
 simp[Builtin.append_,run_underlying hT,run_underlying hT']
theorem Z93 {P:Program}(T ty e:TypeId)(i:TypeInfo)(z:Value)(ht:P.underlying T=some (.slice e))(hi:P.info? e=some i)(hz:i.zero=some z)(hzs:z.cells.size=i.size)(hsz:0<i.size)
   (v:Value) (n:Nat) (xs:List Value) (hown:w.ownsRow 0 e i.size v n xs) (a:Addr) (m c:Nat) (news:List Value) (hl:news.length=m*i.size) (hnews:∀j u,news[j]?=some u->w.cell? (a.add j)=some u)
   (h1:∀u∈news,u.oneCell'=true) (h63:n+m<=maxLen) (hbytes:(n+m)*i.bytes<=140737488355328):
   ∃ v' w',(Builtin.append_ #[T,T] ty #[v,.slice (some a) m c]).run P w=.ok v' w'/\w'.ownsRow 0 e i.size v' (n+m) (xs++news)/\w.grownBy w' v.ownBlock/\
     (v'.ownBlock=v.ownBlock\/∀g,v'.ownBlock=some g->w.heap.size<=g):=by
 obtain⟨v',w',hrun,hrow,hgrow,_⟩:=run_append_own (P:=P) w 0 T ty e i z i.size i.bytes ht hi hz rfl rfl hzs hsz v n xs hown a m c news hl hnews h1 h63 hbytes (Nat.zero_le _);refine⟨v',w',hrun,hrow,hgrow,?_⟩;have hsmall:n+m<=9223372036854775807:=by simp only[maxLen]at h63;omega
 rcases hown.2 with⟨rfl,rfl⟩|⟨g,cap,cur,rfl,hbg,hg,hnc,hcm,hcs,htake⟩
 . obtain⟨v2,w2,hrun2,hrow2,_⟩:=run_append_own (P:=P) w w.heap.size T ty e i z i.size i.bytes ht hi hz rfl rfl hzs hsz (.slice none 0 0) 0 xs ⟨hown.1,.inl ⟨rfl,rfl⟩⟩ a m c news hl hnews h1 h63 hbytes (Nat.le_refl _);rw[hrun]at hrun2;cases hrun2;exact .inr fun g hg=>(hrow2.lt g hg).1
 . by_cases hroom:n+m<=cap
   . have hfit:n*i.size+news.length<=cur.size:=by rw[hl,hcs,<-Nat.add_mul];exact Nat.mul_le_mul_right _ hroom
     have hr:=run_append_room (P:=P) w T ty e i ht hi g n cap cur hg a m c news hl hnews h1 hroom hfit;rw[hrun]at hr;cases hr;exact .inl rfl
   . have holds:∀j u,xs[j]?=some u->w.cell? ((⟨g,0,none⟩:Addr).add j)=some u:=hown.cells (g:=g) rfl
     have hr:=run_append_grow (P:=P) w T ty e i z ht hi hz ⟨g,0,none⟩ n cap xs hown.1 holds a m c news hl hnews (by omega) (by omega) (growslice_fits (by omega) hbytes);rw[hrun]at hr;cases hr;exact .inr fun g' hg'=>by cases hg';exact Nat.le_refl _
theorem Z8c {P:Program}(T ty e:TypeId)(i:TypeInfo)(ht:P.underlying T=some (.slice e))(hi:P.info? e=some i)(v:Value)(n:Nat)(xs:List Value)(hown:w.ownsRow 0 e i.size v n xs)(c:Nat):
   (Builtin.append_ #[T,T] ty #[v,.slice none 0 c]).run P w=.ok v w:=by
 rcases hown.2 with⟨rfl,rfl⟩|⟨g,cap,cur,rfl,hbg,hg,hnc,hcm,hcs,htake⟩
 . simp[Builtin.append_,run_underlying ht,sizeOf,typeInfo,hi,Builtin.lenOf,Builtin.firstCells]
 . simp[Builtin.append_,run_underlying ht,sizeOf,typeInfo,hi,Builtin.lenOf,Builtin.firstCells,hnc,storeCells]
def SCells(own:Own)(w:World)(e:Ty)(q:Nat->Pos)(B:Option Addr)(ys:List e.den):Prop:=
 ∀(i:Nat)(y:e.den),ys[i]?=some y->∃A cs,B=some A/\CellsAt w (A.add (i*e.size)) cs/\Rep own w e y (q i) cs
theorem add_add {A:Addr}{i q:Nat}:(A.add i).add q=A.add (i+q):=by
 unfold Addr.add;by_cases h:i=0<;>by_cases h':q=0<;>simp[h,h',Nat.add_assoc]
theorem SCells.news {e:Ty}{q:Nat->Pos}{A:Addr}{ys:List e.den}(hs:0<e.size)(h:SCells own w e q (some A) ys):
   ∃news,news.length=ys.length*e.size/\(∀j u,news[j]?=some u->w.cell? (A.add j)=some u)/\(∀u∈news,u.oneCell'=true)/\Elems own w e q ys news:=by
 have hget:∀j,j<ys.length*e.size->∃u,w.cell? (A.add j)=some u/\u.oneCell'=true:=by
   intro j hj;have hi:j/e.size<ys.length:=by rw[Nat.div_lt_iff_lt_mul hs];exact hj
   obtain⟨A',cs,hA,hc,hr⟩:=h (j/e.size) _ (List.getElem?_eq_getElem hi);cases hA;have hm:=Nat.mod_lt j hs;have hl:=hr.length;have:=hc (j % e.size) _ (List.getElem?_eq_getElem (by omega));rw[add_add,Nat.mul_comm,Nat.div_add_mod]at this;exact⟨_,this,hr.one _ (List.getElem_mem _)⟩
 let news:=(List.range (ys.length*e.size)).map fun j=>(w.cell? (A.add j)).getD undef
 have hn:∀j u,news[j]?=some u->w.cell? (A.add j)=some u:=by
   intro j u hu;have hj:j<ys.length*e.size:=by have:=(List.getElem?_eq_some_iff.1 hu).1;simpa[news]using this
   obtain⟨u',h1,_⟩:=hget j hj;have:news[j]?=some u':=by simp[news,List.getElem?_map,List.getElem?_range hj,h1]
   rw[this]at hu;cases hu;exact h1
 refine⟨news,by simp[news],hn,fun u hu=>?_,fun i y hy=>?_⟩
 . obtain⟨j,hj⟩:=List.getElem?_of_mem hu;have hlt:j<ys.length*e.size:=by have:=(List.getElem?_eq_some_iff.1 hj).1;simpa[news]using this
   obtain⟨u',h1,h2⟩:=hget j hlt;rw[hn j u hj]at h1;cases h1;exact h2
 . obtain⟨A',cs,hA,hc,hr⟩:=h i y hy;cases hA;have hi:=(List.getElem?_eq_some_iff.1 hy).1;have h1:i*e.size+e.size<=ys.length*e.size:=by
     have:=Nat.mul_le_mul_right e.size (Nat.succ_le_of_lt hi);rw[Nat.succ_mul]at this;exact this
   have hcs:(news.drop (i*e.size)).take e.size=cs:=by
     have hl:=hr.length;apply List.ext_getElem?;intro k;rw[List.getElem?_take];split
     . rename_i hk;rw[List.getElem?_drop];have hj:i*e.size+k<news.length:=by simp only[news,List.length_map,List.length_range];omega
       have h3:=hn _ _ (List.getElem?_eq_getElem hj);have h4:=hc k _ (List.getElem?_eq_getElem (by omega));rw[add_add,h3]at h4;rw[List.getElem?_eq_getElem hj,List.getElem?_eq_getElem (by omega)];exact h4
     . rw[List.getElem?_eq_none (by omega)]
   rw[hcs];exact hr
theorem Elems.scells {tid:TypeId}{e:Ty}{q:Nat->Pos}{xs:List e.den}{v:Value}{n:Nat}{cells:List Value}(h:w.ownsRow 0 tid e.size v n cells)(he:Elems own w e q xs cells)(hn:xs.length<=n):
   ∃B c,v=.slice B n c/\SCells own w e q B xs:=by
 obtain⟨hlen,⟨rfl,h0⟩|⟨g,cap,cur,rfl,_,hg,hc,hm,hsz,htake⟩⟩:=h
 . subst h0;exact⟨none,0,rfl,fun i y hy=>by rw[List.getElem?_eq_none (by omega)]at hy;cases hy⟩
 . refine⟨some ⟨g,0,none⟩,cap,rfl,fun i y hy=>⟨_,_,rfl,?_,he i y hy⟩⟩;intro k u hu;rw[Zx,Nat.zero_add,cell_row hg];rw[List.getElem?_take]at hu;split at hu
   . rw[List.getElem?_drop,<-htake,List.getElem?_take]at hu;split at hu
     . simpa using hu
     . cases hu
   . cases hu
theorem Zdy {e:Ty}{xs:List e.den}{p:Pos}{v:Value}(h:Rep own w (.slc e) xs p [v]):∃B c,v=.slice B xs.length c/\SCells own w e (fun _=>p) B xs:=by
 simp only[Rep,List.cons.injEq,and_true]at h;obtain⟨_,B,c,rfl,h1,h2,he⟩:=h;refine⟨B,c,rfl,fun i y hy=>?_⟩;obtain⟨A,ys,hA,_,hc,hr⟩:=he i y hy;exact⟨A,ys,hA,hc,hr⟩
theorem SCells.sub {e:Ty}{q:Nat->Pos}{A:Addr}{xs:List e.den}{lo n:Nat}(h:SCells own w e q (some A) xs):SCells own w e (fun i=>q (lo+i)) (some (A.add (lo*e.size))) ((xs.drop lo).take n):=by
 intro i y hy;obtain⟨_,hy⟩:=Zej _ _ _ _ _ hy;obtain⟨A',cs,hA,hc,hr⟩:=h _ y hy;cases hA;refine⟨_,cs,rfl,?_,hr⟩;rw[add_add,<-Nat.add_mul];exact hc
theorem Zfd {e:Ty}{a:AV}{va:Value}{O:Obs}{K:List e.den->Obs->Option ρ}{r:ρ}(hO:Objs own w G O)(ha:AVv own w G a va)(h:srcK e a O K=some r):
   ∃ys O2 B c q,K ys O2=some r/\va=.slice B ys.length c/\SCells own w e q B ys/\((e.plain=true/\O2=O)\/∃o,has O o=true/\O2=Z16 O o/\q=fun i=>⟨o,[i],false⟩):=by
 unfold srcK at h;split at h
 . rename_i e' ys;obtain⟨he,h⟩:=Z3 h;cases he;obtain⟨hp,hr⟩:=ha.one rfl rfl;obtain⟨B,c,hv,hS⟩:=Zdy hr;exact⟨_,O,B,c,_,h,hv,hS,.inl ⟨hp,rfl⟩⟩
 . rename_i o lo n;split at h
   . rename_i tid e' ys hl;obtain⟨hp,h⟩:=Z0 h;obtain⟨he,h⟩:=Z3 h;cases he;obtain⟨hsz,_,hr⟩:=hO o _ hl;obtain⟨B,m,c,B',c',hv,he,h1,h2,h3,_,h4⟩:=ha.one rfl rfl;simp only[List.cons.injEq,and_true]at he;obtain⟨cells,hrow,_,hel⟩:=Z4i hr;obtain⟨B2,c2,hv2,hS⟩:=hel.scells hrow (Nat.le_refl _);rw[hv]at hv2;simp only[Value.slice.injEq]at hv2;obtain⟨rfl,rfl,rfl⟩:=hv2;have hlen:((ys.drop lo).take n).length=n:=Zek ys lo n h1;refine⟨_,O,B',c',fun i=>⟨o,[lo+i],false⟩,h,by rw[he];congr 1;exact hlen.symm,?_,.inl ⟨hp,rfl⟩⟩;rcases Nat.eq_zero_or_pos n with h0|h0
     . subst h0;intro i y hy;simp at hy
     . obtain⟨A,rfl,rfl⟩:=h4 h0;rw[hsz];exact hS.sub
   . cases h
 . rename_i o;split at h
   . rename_i tid e' ys hl;obtain⟨hsz,_,hr⟩:=hO o _ hl;obtain⟨he,_⟩:=ha.one rfl rfl;simp only[List.cons.injEq,and_true]at he;obtain⟨cells,hrow,_,hel⟩:=Z4i hr;obtain⟨B2,c2,hv2,hS⟩:=hel.scells hrow (Nat.le_refl _);rcases Z8 h with⟨hp,h⟩|⟨hp,h⟩
     . obtain⟨hc,h⟩:=Z3 h;cases hc;exact⟨_,O,B2,c2,_,h,he.trans hv2,hS,.inl ⟨hp,rfl⟩⟩
     . obtain⟨hc,h⟩:=Z3 h;cases hc;rw[Z4]at h;exact⟨_,_,B2,c2,_,h,he.trans hv2,hS,.inr ⟨o,Z1 hl,rfl,rfl⟩⟩
   . cases h
 . cases h
theorem Z94(hE:EnvOk E){T:Nat}{s:Operand}{ev:Operand->AV}{V:Operand->Value}{O:Obs}{K:(tid:Nat)->(e:Ty)->List e.den->Obs->Option ρ}{r:ρ}(hO:Objs own w G O)(ha:AVv own w G (ev s) (V s))(hc:∀v,V (.const v)=v)
   (h:Z7w E T (Z1q s) (ev s) O K=some r):∃tid e xs O1 o cells,K tid e xs O1=some r/\w.ownsRow 0 tid e.size (V s) xs.length cells/\(∀g,(V s).ownBlock=some g->own g=.ob o [])/\Elems own w e (fun i=>⟨o,[i],false⟩) xs cells/\
     ((V s=.slice none 0 0/\O1=O)\/(has O o=true/\O1=Z16 O o)):=by
 unfold Z7w at h;rcases Z8 h with⟨hn,h⟩|⟨hn,h⟩
 . have hs:=Z4h hn;have hv:V s=.slice none 0 0:=by rw[hs];exact hc _
   obtain⟨e,j,hT,hj,hJ,h⟩:=Zv hE h;refine⟨e,j.zero.t,[],O,[],[],h,by rw[hv];exact⟨by simp,.inl ⟨rfl,rfl⟩⟩,fun g hg=>(by rw[hv]at hg;exact nomatch hg),fun i y hy=>(by simp at hy),.inl ⟨hv,rfl⟩⟩
 . split at h
   . rename_i o hev;split at h
     . rename_i tid e xs hl;rw[Z4]at h;rw[hev]at ha;obtain⟨hsz,_,hr⟩:=hO o _ hl;obtain⟨he,_⟩:=ha.one rfl rfl;simp only[List.cons.injEq,and_true]at he;rw[<-he]at hr;obtain⟨cells,hrow,hlab,hel⟩:=Z4i hr;exact⟨tid,e,xs,_,o,cells,h,hrow,hlab,hel,.inr ⟨Z1 hl,rfl⟩⟩
     . cases h
   . rename_i o n hev;split at h
     . rename_i tid e xs hl;obtain⟨hle,h⟩:=Zk h;have hle:=of_decide_eq_true hle;rw[Z4]at h;rw[hev]at ha;obtain⟨hsz,_,hr⟩:=hO o _ hl;obtain⟨B,m,c,B',c',hv,he,h1,h2,h3,h4,h5⟩:=ha.one rfl rfl;simp only[List.cons.injEq,and_true]at he;obtain⟨rfl,rfl⟩:=h4 rfl;obtain⟨cells,hrow,hlab,hel⟩:=Z4i hr;have hxl:(xs.take n).length=n:=by rw[List.length_take];omega
       rw[hv]at hrow hlab;refine⟨tid,e,xs.take n,_,o,cells.take (n*e.size),h,?_,fun g hg=>hlab g (by rw[he]at hg;revert hg;cases B'<;>exact id),fun i y hy=>?_,.inr ⟨Z1 hl,rfl⟩⟩
       . rw[he,hxl];obtain⟨hcl,hr2⟩:=hrow;refine⟨by rw[List.length_take,hcl];exact Nat.min_eq_left (Nat.mul_le_mul_right _ hle),?_⟩;rcases hr2 with⟨hv0,h0⟩|⟨g,cap,cur,hv0,hb,hg,hcc,hm,hs2,htake⟩
         . simp only[Value.slice.injEq]at hv0;obtain⟨rfl,hm0,rfl⟩:=hv0;have:n=0:=by omega
           subst this;exact .inl ⟨rfl,rfl⟩
         . simp only[Value.slice.injEq]at hv0;obtain⟨rfl,hm0,rfl⟩:=hv0;refine .inr ⟨g,_,cur,rfl,hb,hg,by omega,hm,hs2,?_⟩;rw[<-htake,List.take_take,Nat.min_eq_left (Nat.mul_le_mul_right _ hle)]
       . have hi:=(List.getElem?_eq_some_iff.1 hy).1;rw[hxl]at hi;rw[List.getElem?_take,if_pos hi]at hy;have:=hel i y hy;have h6:i*e.size+e.size<=n*e.size:=by
           have:=Nat.mul_le_mul_right e.size (Nat.succ_le_of_lt hi);rw[Nat.succ_mul]at this;exact this
         rw[List.drop_take,List.take_take,Nat.min_eq_left (by omega)];exact this
     . cases h
   . cases h
def Z28(own:Own)(g0:Option Nat)(d:Nat)(o1:Option Id)(o2:Option Id)(n:Nat):Own:=fun g=>if some g=g0 then .ob [d] []else match own g with
 |.ob j s=>if some j=o1 then .ob [d] s else if some j=o2 then(match s with|i::q=>.ob [d] ((n+i)::q)|[]=>.out)else .ob j s
 |l=>l
theorem Z95 {f d tid:Nat}{e:Ty}{O O2:Obs}{P:Id->Prop}{xs ys:List e.den}{v v':Value}{cells news:List Value}{o1 o2:Option Id}{p1 q:Nat->Pos}(hM:Mem own w G O P)(hr:∀o,pre [d] o=true->¬P o)
   (hlab:∀g,v.ownBlock=some g->∃o,o1=some o/\own g=.ob o []) (hel:Elems own w e p1 xs cells) (hp1:xs=[]\/∃o,o1=some o/\p1=fun i=>⟨o,[i],false⟩) (hcl:cells.length=xs.length*e.size)
   (hnel:Elems own w e q ys news) (hsrc:e.plain=true\/∃o,o2=some o/\o1≠some o/\q=fun i=>⟨o,[i],false⟩) (hO2:∀o b,look O2 o=some b->look O o=some b/\some o≠o1/\some o≠o2)
   (hrow':w'.ownsRow 0 tid e.size v' (xs.length+ys.length) (cells++news)) (hgrow:w.grownBy w' v.ownBlock) (hblk:v'.ownBlock=v.ownBlock\/∀g,v'.ownBlock=some g->w.heap.size<=g)
   {K:AV->Obs->Option ρ} {r:ρ} (h:mkK E f d [d] O2 (.own tid e) (xs++ys) K=some r):
   ∃a O' own' G',K a O'=some r/\Made own w G O own' w' G' O' true a v':=by
 have hg0:∀g,own g≠.out->some g=v'.ownBlock->some g=v.ownBlock:=by
   intro g hg he;rcases hblk with hb|hb
   . rw[<-hb];exact he
   . exact(hg (hM.bound g (hb g he.symm))).elim
 have hheap:∀g,own g≠.out->some g≠v.ownBlock->w'.heap[g]?=w.heap[g]?:=by
   intro g hg hne;have hlt:g<w.heap.size:=by
     rcases Nat.lt_or_ge g w.heap.size with h|h
     . exact h
     . exact(hg (hM.bound g h)).elim
   exact hgrow.block g hlt hne
 have hsame:∀g,own g≠.out->some g≠v.ownBlock->some g≠v'.ownBlock:=fun g hg hne he=>hne (hg0 g hg he)
 have hlab2:∀g o s,own g=.ob o s->some g=v.ownBlock->o1=some o/\s=[]:=by
   intro g o s hg he;obtain⟨o',h1,h2⟩:=hlab g he.symm;rw[hg]at h2;simp only[Lb.ob.injEq]at h2;exact⟨by rw[h1,h2.1],h2.2⟩
 have hsealed:Sealed own w (Z28 own v'.ownBlock d o1 o2 xs.length) w':=by
   intro g hg;have hne:some g≠v.ownBlock:=fun he=>by
     obtain⟨o',_,h2⟩:=hlab g he.symm;rw[hg]at h2;cases h2
   have hno:own g≠.out:=by rw[hg];intro e;cases e
   exact⟨by simp only[Z28,if_neg (hsame g hno hne),hg],hheap g hno hne⟩
 have hpost:Post own (Z28 own v'.ownBlock d o1 o2 xs.length) w w' G G O O2 true:=by
   refine Post.rest hM (fun o b hb=>(hO2 o b hb).1) hsealed (fun g o s hg ho=>?_) (fun g hlt hg=>?_) (fun g hge=>?_) hgrow.size hgrow.os hgrow.tape hgrow.output
   . obtain⟨b,hb⟩:=has_look.1 ho;obtain⟨_,h1,h2⟩:=hO2 o b hb;have hno:own g≠.out:=by rw[hg];intro e;cases e
     have hne:some g≠v.ownBlock:=fun he=>h1 (hlab2 g o s hg he).1.symm
     exact⟨by simp only[Z28,if_neg (hsame g hno hne),hg,if_neg h1,if_neg h2],hheap g hno hne⟩
   . have hne:some g≠v.ownBlock:=fun he=>by
       obtain⟨o',_,h2⟩:=hlab g he.symm;rw[hg]at h2;cases h2
     have hne':some g≠v'.ownBlock:=by
       rcases hblk with hb|hb
       . rw[hb];exact hne
       . intro he;have:=hb g he.symm;omega
     exact⟨by simp only[Z28,if_neg hne',hg],hgrow.block g hlt hne⟩
   . have hge2:=Nat.le_trans hgrow.size hge;have hne':some g≠v'.ownBlock:=fun he=>by
       have:=(hrow'.lt g he.symm).2;omega
     simp only[Z28,if_neg hne',hM.bound g hge2]
 have hmv:∀o i,o1=some o->Mv own w (Z28 own v'.ownBlock d o1 o2 xs.length) w' e ⟨o,[i],false⟩ ⟨[d],[i],false⟩:=by
   intro o i ho;refine Mv.sub fun g s hg=>?_
   have hno:own g≠.out:=by rw[hg];intro e;cases e
   have hne:some g≠v.ownBlock:=fun he=>by have:=(hlab2 g _ _ hg he).2;simp at this
   exact⟨by simp only[Z28,if_neg (hsame g hno hne),hg,ho,if_true],hheap g hno hne⟩
 have hE1:Elems (Z28 own v'.ownBlock d o1 o2 xs.length) w' e (fun i=>⟨[d],[i],false⟩) xs cells:=by
   rcases hp1 with rfl|⟨o,ho,rfl⟩
   . intro i y hy;simp at hy
   . exact hel.moveTo hsealed fun i _=>hmv o i ho
 have hE2:Elems (Z28 own v'.ownBlock d o1 o2 xs.length) w' e (fun i=>⟨[d],[xs.length+i],false⟩) ys news:=by
   rcases hsrc with hp|⟨o,ho,hne1,rfl⟩
   . exact hnel.plainTo hsealed hp
   . refine hnel.moveTo hsealed fun i _=>Mv.sub fun g s hg=>?_
     have hno:own g≠.out:=by rw[hg];intro e;cases e
     have hne:some g≠v.ownBlock:=fun he=>hne1 (hlab2 g _ _ hg he).1
     exact⟨by simp only[Z28,if_neg (hsame g hno hne),hg,if_neg (Ne.symm hne1),ho,if_true];rfl,hheap g hno hne⟩
 have hrep:Rep (Z28 own v'.ownBlock d o1 o2 xs.length) w' (.own tid e) (xs++ys) ⟨[d],[],true⟩ [v']:=by
   refine Zdu (cells:=cells++news) (base:=0) (by rw[List.length_append];exact hrow') (fun g hg=>?_) (hE1.app hE2 hcl fun i=>rfl);simp only[Z28,hg,if_true];rfl
 have hM2:Mem (Z28 own v'.ownBlock d o1 o2 xs.length) w' G O2 P:=⟨hpost.objs,fun o c hc=>hM.box o c (hO2 o _ hc).1,fun o ho=>by
   obtain⟨b,hb⟩:=has_look.1 ho;exact hM.live o (Z1 (hO2 o b hb).1),hpost.bound,Base.keep hM.base hpost.sealed⟩
 obtain⟨a,O',G',own',h,hmade,_,hnew,_⟩:=Z2n hM2 hr hrep rfl h;refine⟨a,O',own',G',h,hmade.val,hmade.men,hpost.thenF hmade.post fun o ho ho2=>?_⟩;rcases hnew o ho2 with h1|h1
 . exact h1
 . exact(hr o h1 (hM.live o ho)).elim
theorem Zcr(hE:EnvOk E){f d T T':Nat}{s x:Operand}{ev:Operand->AV}{V:Operand->Value}{O:Obs}{P:Id->Prop}(hM:Mem own w G O P)(hr:∀o,pre [d] o=true->¬P o)(hs:AVv own w G (ev s) (V s))(hx:AVv own w G (ev x) (V x))(hc:∀v,V (.const v)=v)
   {K:AV->Obs->Option ρ} {r:ρ} (h:Z4b E f d ev O T T' s x K=some r) (ty:TypeId):
   ∃a O' own' w' G' v,K a O'=some r/\(Builtin.append_ #[T,T'] ty #[V s,V x]).run E.P w=.ok v w'/\Made own w G O own' w' G' O' true a v:=by
 unfold Z4b at h;obtain⟨_,_,hT',_,_,h⟩:=Zv hE h;obtain⟨eT,j,hT,hj,hJ,h⟩:=Zv hE h;obtain⟨tid,e,xs,O1,o1,cells,h,hrow,hlab,hel,hO1⟩:=Z94 hE hM.objs hs hc h;obtain⟨_,h⟩:=Zs h;have hObj1:Objs own w G O1:=by
   rcases hO1 with⟨_,rfl⟩|⟨_,rfl⟩
   . exact hM.objs
   . intro o b hb;rw[Za]at hb;split at hb
     . cases hb
     . exact hM.objs o b hb
 obtain⟨ys,O2,B,c,q,h,hvx,hS,hsrc⟩:=Zfd hObj1 hx h;obtain⟨h1,h⟩:=Z0 h;have h1:=Z2 h1;rw[<-h1]at hT hj hJ;obtain⟨h2,h⟩:=Z0 h;have h2:=Z2 h2;obtain⟨h3,h⟩:=Zs h;obtain⟨h4,h⟩:=Zk h;have h4:=of_decide_eq_true h4;have hs0:0<e.size:=by
   rcases Nat.eq_zero_or_pos e.size with h|h
   . rw[h]at h3;cases h3
   . exact h
 have hb0:0<j.bytes:=by
   rcases Nat.eq_zero_or_pos j.bytes with h|h
   . rw[h]at h3;cases hz:Nat.beq e.size 0<;>rw[hz]at h3<;>cases h3
   . exact h
 obtain⟨inf,z,zc,i1,i2,i3,i4,i5,i6⟩:=hJ.info;have hlit:=Zr (own:=own) (w:=w) (p:=⟨[],[],true⟩) i5;have hzc:z.cells=zc.toArray:=i6.cells hlit.one;have hzs:z.cells.size=inf.size:=by rw[hzc,List.size_toArray,hlit.length,hJ.zt,i2]
 have hie:inf.size=e.size:=i2.trans h2.symm;have hmax:xs.length+ys.length<=maxLen:=by
   have:=Nat.le_mul_of_pos_right (xs.length+ys.length) hb0;simp only[maxLen];omega
 have hrun:∃v' w' news,(Builtin.append_ #[T,T'] ty #[V s,V x]).run E.P w=.ok v' w'/\w'.ownsRow 0 tid e.size v' (xs.length+ys.length) (cells++news)/\w.grownBy w' (V s).ownBlock/\
     (v'.ownBlock=(V s).ownBlock\/∀g,v'.ownBlock=some g->w.heap.size<=g)/\Elems own w e q ys news:=by
   obtain⟨b0,n0,c0,hv0⟩:∃b0 n0 c0,V s=.slice b0 n0 c0:=by
     rcases hrow.2 with⟨h,_⟩|⟨g,cap,cur,h,_⟩<;>exact⟨_,_,_,h⟩
   rw[hvx,hv0,Zbq hT hT',<-hv0];cases B with
   | none=>
     have hy:ys=[]:=by
       cases ys with
       |nil=>rfl
       |cons y l=>obtain⟨A,_,hA,_⟩:=hS 0 y rfl;cases hA
     subst hy;have:=Z8c (P:=E.P) T ty tid inf hT i1 (V s) xs.length cells (by rw[hie];exact hrow) c;refine⟨V s,w,[],this,by simpa using hrow,⟨rfl,rfl,rfl,Nat.le_refl _,fun _ _ _=>rfl⟩,.inl rfl,fun i y hy=>by simp at hy⟩
   | some A=>
     obtain⟨news,hn1,hn2,hn3,hn4⟩:=hS.news hs0;obtain⟨v',w',hrun,hrow',hgrow,hblk⟩:=Z93 (P:=E.P) (w:=w) T ty tid inf z hT i1 i4 hzs (by rw[hie];exact hs0) (V s) xs.length cells (by rw[hie];exact hrow) A ys.length c news (by rw[hie];exact hn1) hn2 hn3 hmax (by rw[i3];exact h4);rw[hie]at hrow';exact⟨v',w',news,hrun,hrow',hgrow,hblk,hn4⟩
 obtain⟨v',w',news,hrun,hrow',hgrow,hblk,hnel⟩:=hrun;have fin:∀(m1 m2:Option Id),(∀g,(V s).ownBlock=some g->∃o,m1=some o/\own g=.ob o [])->(xs=[]\/m1=some o1)->(e.plain=true\/∃o,m2=some o/\m1≠some o/\q=fun i=>⟨o,[i],false⟩)->
     (∀o b,look O2 o=some b->look O o=some b/\some o≠m1/\some o≠m2)->∃a O' own' w' G' v,K a O'=some r/\(Builtin.append_ #[T,T'] ty #[V s,V x]).run E.P w=.ok v w'/\Made own w G O own' w' G' O' true a v:=by
   intro m1 m2 a1 a2 a3 a4;obtain⟨a,O',own',G',hk,hmade⟩:=Z95 (o1:=m1) (o2:=m2) (p1:=fun i=>⟨o1,[i],false⟩) hM hr a1 hel (a2.imp id fun e=>⟨o1,e,rfl⟩) hrow.1 hnel a3 a4 hrow' hgrow hblk h;exact⟨a,O',own',w',G',v',hk,hrun,hmade⟩
 rcases hO1 with⟨hnil,rfl⟩|⟨ho1,rfl⟩
 . have hx0:xs=[]:=by
     have:=hrow.2;rw[hnil]at this;rcases this with⟨_,h0⟩|⟨g,cap,cur,h0,_⟩
     . exact List.eq_nil_of_length_eq_zero h0
     . cases h0
   rcases hsrc with⟨hp,rfl⟩|⟨o,ho,rfl,hq⟩
   . exact fin none none (fun g hg=>by rw[hnil]at hg;cases hg) (.inl hx0) (.inl hp) fun o b hb=>⟨hb,by simp,by simp⟩
   . refine fin none (some o) (fun g hg=>by rw[hnil]at hg;cases hg) (.inl hx0) (.inr ⟨o,rfl,by simp,hq⟩) fun o' b hb=>?_
     rw[Za]at hb;split at hb
     . cases hb
     . rename_i hne;exact⟨hb,by simp,by simpa using hne⟩
 . have hd:∀o b,look (Z16 O o1) o=some b->look O o=some b/\o≠o1:=by
     intro o b hb;rw[Za]at hb;split at hb
     . cases hb
     . rename_i hne;exact⟨hb,hne⟩
   rcases hsrc with⟨hp,rfl⟩|⟨o,ho,rfl,hq⟩
   . exact fin (some o1) none (fun g hg=>⟨o1,rfl,hlab g hg⟩) (.inr rfl) (.inl hp) fun o b hb=>⟨(hd o b hb).1,by simpa using(hd o b hb).2,by simp⟩
   . obtain⟨b0,hb0⟩:=has_look.1 ho;refine fin (some o1) (some o) (fun g hg=>⟨o1,rfl,hlab g hg⟩) (.inr rfl) (.inr ⟨o,rfl,by have:=(hd o b0 hb0).2;simpa using fun e=>this e.symm,hq⟩) fun o' b hb=>?_
     rw[Za]at hb;split at hb
     . cases hb
     . rename_i hne;exact⟨(hd o' b hb).1,by simpa using(hd o' b hb).2,by simpa using hne⟩
theorem Z7h {x:Int}(h0:0<=x)(h1:x<=9223372036854775807):IntKind.i64.wrap x=x:=by
 simp only[IntKind.wrap,IntKind.bits,IntKind.signed,Bool.true_and];split
 . rename_i h;have h:=of_decide_eq_true h;omega
 . rename_i h;have h:=of_decide_eq_false (Bool.eq_false_iff.2 h);omega
theorem Z66(z:Array Value)(n:Nat):(Builtin.zeroCells z n).size=n*z.size:=by simp[Builtin.zeroCells]
theorem Z8d {P:Program}(t tx ty e:TypeId)(i:TypeInfo)(z:Value)(ht:P.underlying t=some (.slice e))(hx:P.underlying tx=some (.int .i64))(hi:P.info? e=some i)(hz:i.zero=some z)(hsz:0<i.size)
   (g sLen sCap:Nat) (cur:Array Value) (hg:w.heap[g]?=some (.cells cur e (0,0))) (m:Nat) (hzs:z.cells.size=i.size) (h1:∀u∈(Builtin.zeroCells z.cells m).toList,u.oneCell'=true)
   (hm:(m:Int)<=9223372036854775807) (h48:m*i.bytes<=281474976710656) (hroom:sLen+m<=sCap) (hfit:sLen*i.size+m*i.size<=cur.size):
   (Builtin.append_ #[t,tx] ty #[.slice (some ⟨g,0,none⟩) sLen sCap,.int .i64 m]).run P w=
     .ok (.slice (some ⟨g,0,none⟩) (sLen+m) sCap) (w.setRow g (cur.toList.take (sLen*i.size)++(Builtin.zeroCells z.cells m).toList++cur.toList.drop (sLen*i.size+(Builtin.zeroCells z.cells m).toList.length)).toArray):=by
 have hl:(Builtin.zeroCells z.cells m).toList.length=m*i.size:=by rw[Array.length_toList,Z66,hzs]
 have hw:IntKind.i64.wrap (m:Int)=m:=Z7h (by omega) hm;have h48':¬(281474976710656<(m:Int)*i.bytes):=by
   have:((m*i.bytes:Nat):Int)=(m:Int)*i.bytes:=by simp
   omega
 have hneg:¬((m:Int)<0):=by omega
 have hst:=run_storeCells_at P g (sLen*i.size) e (Builtin.zeroCells z.cells m).toList 0 cur w hg (by rw[hl];simpa using hfit) h1;simp only[Nat.add_zero]at hst;by_cases h0:m=0
 . subst h0;have he:(Builtin.zeroCells z.cells 0).toList=[]:=List.eq_nil_of_length_eq_zero (by rw[hl];simp);rw[he]at hst;simp[Builtin.append_,run_underlying ht,run_underlying hx,sizeOf,typeInfo,hi,asInt,asIntOf,hw,hneg,h48',hroom,Addr.add_lit,hst,he]<;>simp_all
 . have hne:m*i.size≠0:=Nat.mul_ne_zero h0 (by omega);simp[Builtin.append_,run_underlying ht,run_underlying hx,sizeOf,typeInfo,zeroValue,hi,hz,asInt,asIntOf,hw,hneg,h48',hroom,hne,Addr.add_lit,hst]
theorem Z4s {P:Program}(t tx ty e:TypeId)(i:TypeInfo)(z:Value)(ht:P.underlying t=some (.slice e))(hx:P.underlying tx=some (.int .i64))(hi:P.info? e=some i)(hz:i.zero=some z)(hsz:0<i.size)
   (base:Option Addr) (sLen sCap:Nat) (olds:List Value) (hold:(Builtin.firstCells i.size sLen (.slice base sLen sCap)).run P w.drew=.ok olds.toArray w.drew) (m:Nat) (hpos:0<m)
   (hm:(m:Int)<=9223372036854775807) (h48:m*i.bytes<=281474976710656) (hg:sCap<sLen+m) (h63:((sLen+m:Nat):Int)<=9223372036854775807) (hfit:Builtin.nextslicecap (sLen+m) sCap*i.bytes<=281474976710656):
   (Builtin.append_ #[t,tx] ty #[.slice base sLen sCap,.int .i64 m]).run P w=
     .ok (.slice (some ⟨w.heap.size,0,none⟩) (sLen+m) (grownCap w (sLen+m) sCap e))
       (w.drew.alloc (.cells (olds.toArray++Builtin.zeroCells z.cells m++Builtin.zeroCells z.cells (grownCap w (sLen+m) sCap e-(sLen+m))) e)):=by
 have hw:IntKind.i64.wrap (m:Int)=m:=Z7h (by omega) hm;have h48':¬(281474976710656<(m:Int)*i.bytes):=by
   have:((m*i.bytes:Nat):Int)=(m:Int)*i.bytes:=by simp
   omega
 have hneg:¬((m:Int)<0):=by omega
 have hn:¬(sLen+m<=sCap):=by omega
 have h63':¬(9223372036854775807<((sLen:Int)+(m:Int))):=by omega
 have hf':¬(281474976710656<Builtin.nextslicecap (sLen+m) sCap*i.bytes):=by omega
 have hne:m*i.size≠0:=Nat.mul_ne_zero (by omega) (by omega);simp[Builtin.append_,run_underlying ht,run_underlying hx,sizeOf,typeInfo,zeroValue,hi,hz,asInt,asIntOf,hw,hneg,h48',hn,h63',hf',hne,Question.forced,hold,newRow,grownCap]
theorem Z96 {P:Program}(T T' ty e:TypeId)(i:TypeInfo)(z:Value)(ht:P.underlying T=some (.slice e))(hx:P.underlying T'=some (.int .i64))(hi:P.info? e=some i)(hz:i.zero=some z)(hzs:z.cells.size=i.size)(hsz:0<i.size)
   (v:Value) (n:Nat) (xs:List Value) (hown:w.ownsRow 0 e i.size v n xs) (m:Nat) (h1:∀u∈(Builtin.zeroCells z.cells m).toList,u.oneCell'=true)
   (h63:n+m<=maxLen) (hbytes:(n+m)*i.bytes<=140737488355328):
   ∃ v' w',(Builtin.append_ #[T,T'] ty #[v,.int .i64 m]).run P w=.ok v' w'/\w'.ownsRow 0 e i.size v' (n+m) (xs++(Builtin.zeroCells z.cells m).toList)/\w.grownBy w' v.ownBlock/\
     (v'.ownBlock=v.ownBlock\/∀g,v'.ownBlock=some g->w.heap.size<=g):=by
 have hsmall:n+m<=9223372036854775807:=by simp only[maxLen]at h63;omega
 have hm:(m:Int)<=9223372036854775807:=by omega
 have hmb:m*i.bytes<=281474976710656:=by
   have:m*i.bytes<=(n+m)*i.bytes:=Nat.mul_le_mul_right _ (by omega);omega
 have hl:(Builtin.zeroCells z.cells m).toList.length=m*i.size:=by rw[Array.length_toList,Z66,hzs]
 have hlen:(xs++(Builtin.zeroCells z.cells m).toList).length=(n+m)*i.size:=by rw[List.length_append,hown.1,hl,Nat.add_mul]
 have grown:∀(old:Nat),old<n+m->∀(row:Option Nat),
     (w.drew.alloc (.cells (xs.toArray++Builtin.zeroCells z.cells m++Builtin.zeroCells z.cells (grownCap w (n+m) old e-(n+m))) e)).ownsRow 0 e i.size
       (.slice (some ⟨w.heap.size,0,none⟩) (n+m) (grownCap w (n+m) old e)) (n+m) (xs++(Builtin.zeroCells z.cells m).toList)/\
     w.grownBy (w.drew.alloc (.cells (xs.toArray++Builtin.zeroCells z.cells m++Builtin.zeroCells z.cells (grownCap w (n+m) old e-(n+m))) e)) row:=by
   intro old ho row;have hge:=grownCap_ge w (n+m) old e;have hcm:grownCap w (n+m) old e<=maxLen:=grownCap_le_maxLen w (n+m) old e h63;refine⟨⟨hlen,.inr ⟨w.heap.size,_,_,rfl,Nat.zero_le _,heap_alloc_new w.drew _,hge,hcm,?_,?_⟩⟩,⟨rfl,rfl,rfl,by simp,fun k hk _=>heap_alloc_old w.drew _ hk⟩⟩
   . simp only[Array.size_append,List.size_toArray,Z66,hzs,hown.1,<-Nat.add_mul]
     congr 1
     omega
   . simp only[Array.toList_append,List.append_assoc];rw[<-List.append_assoc,<-hlen];exact List.take_left
 rcases hown.2 with⟨rfl,rfl⟩|⟨g,cap,cur,rfl,hbg,hg,hnc,hcm,hcs,htake⟩
 . have hx0:xs=[]:=List.eq_nil_of_length_eq_zero (by simpa using hown.1);subst hx0;by_cases h0:m=0
   . subst h0;have hn:(Builtin.zeroCells z.cells 0).toList=[]:=List.eq_nil_of_length_eq_zero (by rw[hl];simp);refine⟨.slice none 0 0,w,?_,?_,⟨rfl,rfl,rfl,Nat.le_refl _,fun _ _ _=>rfl⟩,.inl rfl⟩
     . simp[Builtin.append_,run_underlying ht,run_underlying hx,sizeOf,typeInfo,hi,asInt,asIntOf,Z7h]
     . rw[hn];exact World.ownsRow_nil w 0 e i.size
   . have hr:=Z4s (P:=P) T T' ty e i z ht hx hi hz hsz none 0 0 [] (run_firstCells_none w.drew i.size 0 0 0) m (by omega) hm hmb (by omega) (by omega) (growslice_fits (by omega) hbytes);have hgr:=grown 0 (by omega) (Value.ownBlock (.slice none 0 0));exact⟨_,_,hr,hgr.1,hgr.2,.inr fun g hg=>by cases hg;exact Nat.le_refl _⟩
 . by_cases hroom:n+m<=cap
   . have hfit:n*i.size+m*i.size<=cur.size:=by rw[hcs,<-Nat.add_mul];exact Nat.mul_le_mul_right _ hroom
     have hr:=Z8d (P:=P) T T' ty e i z ht hx hi hz hsz g n cap cur hg m hzs h1 hm hmb hroom hfit;refine⟨_,_,hr,⟨hlen,.inr ⟨g,cap,_,rfl,hbg,setRow_heap w g cur _ e _ hg,hroom,hcm,?_,?_⟩⟩,⟨rfl,rfl,rfl,by simp,fun k _ hk=>setRow_other w g k _ (fun e=>hk (by simp[Value.ownBlock,e]))⟩,.inl rfl⟩
     . simp only[List.size_toArray,List.length_append,List.length_take,List.length_drop,Array.length_toList]at hl⊢;omega
     . rw[htake,<-hlen];exact List.take_left
   . have holds:∀j u,xs[j]?=some u->w.cell? ((⟨g,0,none⟩:Addr).add j)=some u:=hown.cells (g:=g) rfl
     have hold:=run_firstCells_some (P:=P) w.drew i.size n ⟨g,0,none⟩ n cap xs hown.1 (by simpa using holds);have hr:=Z4s (P:=P) T T' ty e i z ht hx hi hz hsz (some ⟨g,0,none⟩) n cap xs hold m (by omega) hm hmb (by omega) (by omega) (growslice_fits (by omega) hbytes);have hgr:=grown cap (by omega) (Value.ownBlock (.slice (some ⟨g,0,none⟩) n cap));exact⟨_,_,hr,hgr.1,hgr.2,.inr fun g' hg'=>by cases hg';exact Nat.le_refl _⟩
theorem Zbr(hE:EnvOk E){f d T T':Nat}{s x:Operand}{ev:Operand->AV}{V:Operand->Value}{O:Obs}{P:Id->Prop}(hM:Mem own w G O P)(hr:∀o,pre [d] o=true->¬P o)(hs:AVv own w G (ev s) (V s))(hx:AVv own w G (ev x) (V x))(hc:∀v,V (.const v)=v)
   {K:AV->Obs->Option ρ} {r:ρ} (h:Z3e E f d ev O T T' s x K=some r) (ty:TypeId):
   ∃a O' own' w' G' v,K a O'=some r/\(Builtin.append_ #[T,T'] ty #[V s,V x]).run E.P w=.ok v w'/\Made own w G O own' w' G' O' true a v:=by
 unfold Z3e at h;obtain⟨i',hi',h⟩:=Z5 h;obtain⟨d',hud,htd,_⟩:=(hE.ti _ _ hi').und;split at h
 . exact Zcr hE hM hr hs hx hc h ty
 case h_3=>cases h
 rename_i hd;rw[hd]at htd;have hX:E.P.underlying T'=some (.int .i64):=by rw[hud];exact congrArg some htd
 unfold Z5d at h;split at h
 case h_2=>cases h
 rename_i n hev;rw[hev]at hx;obtain⟨hvx,hwf⟩:=hx.int;obtain⟨eT,j,hT,hj,hJ,h⟩:=Zv hE h;obtain⟨tid,e,xs,O1,o1,cells,h,hrow,hlab,hel,hO1⟩:=Z94 hE hM.objs hs hc h;obtain⟨h1,h⟩:=Z0 h;have h1:=Z2 h1;rw[<-h1]at hT hj hJ;obtain⟨h2,h⟩:=Z0 h;have h2:=Z2 h2;obtain⟨hpl,h⟩:=Z0 h;obtain⟨h3,h⟩:=Zs h;unfold Ze at h;split at h
 case isFalse=>cases h
 rename_i he;subst he;obtain⟨h4,h⟩:=Zk h;rw[Bool.and_eq_true]at h4;have hn0:(0:Int)<=n:=of_decide_eq_true h4.1;have h4:=of_decide_eq_true h4.2;obtain⟨m,rfl⟩:∃m:Nat,n=(m:Int):=⟨Int.toNat n,(Int.toNat_of_nonneg hn0).symm⟩
 have hs0:0<j.zero.t.size:=by
   rcases Nat.eq_zero_or_pos j.zero.t.size with h|h
   . rw[h]at h3;cases h3
   . exact h
 have hb0:0<j.bytes:=by
   rcases Nat.eq_zero_or_pos j.bytes with h|h
   . rw[h]at h3;cases hz:Nat.beq j.zero.t.size 0<;>rw[hz]at h3<;>cases h3
   . exact h
 obtain⟨inf,z,zc,i1,i2,i3,i4,i5,i6⟩:=hJ.info;have hlit:=Zr (own:=own) (w:=w) (p:=⟨[],[],true⟩) i5;have hzc:z.cells=zc.toArray:=i6.cells hlit.one;have hzs:z.cells.size=inf.size:=by rw[hzc,List.size_toArray,hlit.length,hJ.zt,i2]
 have hie:inf.size=j.zero.t.size:=i2.trans h2.symm;have hmax:xs.length+m<=maxLen:=by
   have:=Nat.le_mul_of_pos_right (xs.length+m) hb0;simp only[maxLen];have h4:(xs.length+m)*j.bytes<=140737488355328:=h4;omega
 have hone:∀u∈(Builtin.zeroCells z.cells m).toList,u.oneCell'=true:=by
   intro u hu;have hu:u∈(madeCells zc.toArray (m*z.cells.size)).toList:=by rw[hzc]at hu⊢;exact hu
   simp only[madeCells,Array.toList_map,List.mem_map,Array.toList_range,List.mem_range]at hu;obtain⟨k,hk,rfl⟩:=hu;have hlt:k % zc.length<zc.length:=Nat.mod_lt _ (by rw[<-hzs,hzc]at hie;simp at hie;omega);simp only[List.size_toArray,List.getElem!_toArray];rw[getElem!_pos zc _ hlt];exact hlit.one _ (List.getElem_mem hlt)
 obtain⟨v',w',hrun,hrow',hgrow,hblk⟩:=Z96 (P:=E.P) (w:=w) T T' ty tid inf z hT hX i1 i4 hzs (by rw[hie];exact hs0) (V s) xs.length cells (by rw[hie];exact hrow) m hone hmax (by rw[i3];exact h4);rw[hie]at hrow';have hnel:Elems own w j.zero.t (fun _=>⟨[],[],true⟩) (List.replicate m j.zero.x) (Builtin.zeroCells z.cells m).toList:=by
   intro i y hy;have hi:i<m:=by have:=(List.getElem?_eq_some_iff.1 hy).1;simpa using this
   have hy:y=j.zero.x:=by
     rw[List.getElem?_replicate,if_pos hi]at hy;exact(Option.some.inj hy).symm
   rw[hy];have e0:(Builtin.zeroCells z.cells m).toList=(madeCells zc.toArray (m*j.zero.t.size)).toList:=by
     rw[<-hie,<-hzs,hzc];rfl
   rw[e0,Z5u hlit.length hi];exact Zr i5
 have e1:((m:Int)).toNat=m:=Int.toNat_natCast m;rw[e1]at h;have hrow':w'.ownsRow 0 tid j.zero.t.size v' (xs.length+(List.replicate m j.zero.x).length) (cells++(Builtin.zeroCells z.cells m).toList):=by rw[List.length_replicate];exact hrow'
 rw [hvx];have fin:∀(m1:Option Id),(∀g,(V s).ownBlock=some g->∃o,m1=some o/\own g=.ob o [])->(xs=[]\/m1=some o1)->
     (∀o b,look O1 o=some b->look O o=some b/\some o≠m1)->∃a O' own' w' G' v,K a O'=some r/\(Builtin.append_ #[T,T'] ty #[V s,.int .i64 m]).run E.P w=.ok v w'/\Made own w G O own' w' G' O' true a v:=by
   intro m1 a1 a2 a4;obtain⟨a,O',own',G',hk,hmade⟩:=Z95 (o1:=m1) (o2:=none) (p1:=fun i=>⟨o1,[i],false⟩) hM hr a1 hel (a2.imp id fun e=>⟨o1,e,rfl⟩) hrow.1 hnel (.inl hpl) (fun o b hb=>⟨(a4 o b hb).1,(a4 o b hb).2,by simp⟩) hrow' hgrow hblk h;exact⟨a,O',own',w',G',v',hk,hrun,hmade⟩
 rcases hO1 with⟨hnil,rfl⟩|⟨ho1,rfl⟩
 . have hx0:xs=[]:=by
     have:=hrow.2;rw[hnil]at this;rcases this with⟨_,h0⟩|⟨g,cap,cur,h0,_⟩
     . exact List.eq_nil_of_length_eq_zero h0
     . cases h0
   exact fin none (fun g hg=>by rw[hnil]at hg;cases hg) (.inl hx0) fun o b hb=>⟨hb,by simp⟩
 . refine fin (some o1) (fun g hg=>⟨o1,rfl,hlab g hg⟩) (.inr rfl) fun o b hb=>?_
   rw[Za]at hb;split at hb
   . cases hb
   . rename_i hne;exact⟨hb,by simpa using hne⟩
end Go.Pv
namespace Go.Pv
open Go Go.Great
variable {own own' own1 own2:Own}{w w' w1 w2:World}{G G' G1 G2:Gs}{ρ:Type}{E:Env}[Base]
def Does(P:Program)(V:Operand->Value)(o:Oper)(w:World)(R:Value->World->Prop):Prop:=
 match(execOp V o).run P w with
 |.ok (.value v) w'=>R v w'
 |.ok .skip w'=>R undef w'
 |.ok (.enter f args) w'=>Calls P f args w' fun e w''=>∃v,e=.returned v/\R v w''
 | _=>False
theorem Does.value {P:Program}{V:Operand->Value}{o:Oper}{v:Value}{R:Value->World->Prop}(h:(execOp V o).run P w=.ok (.value v) w')(hR:R v w'):Does P V o w R:=by
 unfold Does;rw[h];exact hR
theorem Does.skip {P:Program}{V:Operand->Value}{o:Oper}{R:Value->World->Prop}(h:(execOp V o).run P w=.ok .skip w')(hR:R undef w'):Does P V o w R:=by
 unfold Does;rw[h];exact hR
theorem Does.mono {P:Program}{V:Operand->Value}{o:Oper}{R R':Value->World->Prop}(h:Does P V o w R)(hR:∀v w',R v w'->R' v w'):Does P V o w R':=by
 unfold Does at h⊢;split at h
 . exact hR _ _ h
 . exact hR _ _ h
 . exact h.mono fun e w''⟨v,he,hr⟩=>⟨v,he,hR _ _ hr⟩
 . exact h.elim
theorem Does.wp {P:Program}{o:Oper}{act:Act}{K:Act->World->Prop}{Q:Exit->Act->World->Prop}(h:Does P act.eval o w fun v w'=>K (act.put o.dst v) w'):o.wp P act w K Q:=by
 unfold Oper.wp;unfold Does at h;split at h
 . rename_i v w' e;rw[e];exact h
 . rename_i w' e;rw[e];exact h
 . rename_i f args w' e;rw[e];exact h.mono fun e w''⟨v,he,hr⟩=>by subst he;exact hr
 . exact h.elim
theorem Zcs(hE:EnvOk E){T:Nat}{i:TI}(hT:E.ti T=some i){O:Obs}{P:Id->Prop}{a x:AV}{va vx:Value}{K:Obs->Bool->Option ρ}{r:ρ}(hM:Mem own w G O P)(ha:AVv own w G a va)(hx:AVv own w G x vx)(hxm:x.men fun i=>has O i=true)
   (h:Z5v O i.size i.agg a x K=some r):∃O' b own' w',K O' b=some r/\(Instr.storeAt T va vx).run E.P w=.ok () w'/\Post own own' w w' G G O O' b:=by
 have hi:=hE.ti T i hT;unfold Z5v at h;obtain⟨h1,h⟩:=Z0 h;have h1:=Z2 h1;obtain⟨h2,h⟩:=Z0 h;have h2:=eq_of_beq h2;split at h
 . rename_i o fp off;split at h
   . rename_i c hl;obtain⟨h3,h⟩:=Z0 h;obtain⟨c',w',h,hr,hp⟩:=Zf7 hi hM.objs hM.bound ha hx hxm h1 h2 hl (Z2 h3) h;rw[putK_eq]at h;exact⟨_,_,own,w',h,hr,hp⟩
   . cases h
 . rename_i o j fp off;split at h
   . rename_i tid e xs hl;rcases Z8 h with⟨hp,h⟩|⟨hp,h⟩
     . obtain⟨h3,h⟩:=Z0 h;obtain⟨y,hy,h⟩:=bind_some h;cases hep:e.plain with
       | true=>
         obtain⟨c',w',h,hr,hpost⟩:=Zdo hi hM.objs hM.bound ha hx hxm h1 h2 hl hep (Z2 h3) hy h;split at h
         . rename_i e' z;obtain⟨rfl,h⟩:=Z3 h;rw[putK_eq,hep]at h;exact⟨_,_,own,w',h,hr,hpost _ rfl⟩
         . cases h
       | false=>
         obtain⟨c',hk,hpt⟩:=Z8w h;split at hk
         . rename_i e' z;obtain⟨hee,hk2⟩:=Z3 hk;subst hee;rw[putK_eq,hep]at hk2;obtain⟨u,a',c,hxe,hpt2⟩:=hpt _ rfl;subst hxe;obtain⟨w',hr,hpost⟩:=Zdp hi hM.objs hM.bound ha hx h1 h2 hl (Z2 h3) hy hpt2;exact⟨_,_,own,w',hk2,hr,hpost⟩
         . cases hk
     . split at h
       . obtain⟨h3,h⟩:=Z0 h;cases Z2 h3;obtain⟨y,hy,h⟩:=bind_some h;obtain⟨u,z,O1,h,hst⟩:=Zdv hi hM ha hx h1 h2 hl hp hy h;obtain⟨ho1,h⟩:=Z0 h;obtain⟨hue,h⟩:=Z3 h;obtain⟨own',w',hr,hpost⟩:=hst hue ho1;rw[putK_eq]at h;exact⟨_,_,own',w',h,hr,hpost⟩
       . cases h
   . cases h
 . rename_i o j fp off jj sz;split at h
   . rename_i tid e xs hl;obtain⟨h3,h⟩:=Z0 h;obtain⟨y,hy,h⟩:=bind_some h;obtain⟨tid2,e2,ys,K2,hq,hput⟩:=Z5l h;obtain⟨hp2,hq⟩:=Z0 hq;obtain⟨h4,hq⟩:=Z0 hq;obtain⟨h5,hq⟩:=Z0 hq;obtain⟨c0,hc0,hq⟩:=bind_some hq;split at hq
     . rename_i e' z;obtain⟨hee,hq2⟩:=Z3 hq;subst hee;obtain⟨y',hput2,hk⟩:=hput _ _ hq2;rw[putK_eq]at hk;obtain⟨w',hr,hpost⟩:=Zgo hi hM.objs hM.bound ha hx h1 h2 (Z2 h4) hl (Z2 h3) hy hc0 hput2;exact⟨_,_,own,w',hk,hr,hpost⟩
     . cases hq
   . cases h
 . cases h
def Comes1(E:Env)(V:Operand->Value)(o:Oper)(own:Own)(w:World)(G:Gs)(O:Obs)(K:AV->Obs->Bool->Option ρ)(r:ρ):Prop:=
 ∃a O' b,K a O' b=some r/\∀R:Value->World->Prop,(∀own' w' G' v,Made own w G O own' w' G' O' b a v->R v w')->Does E.P V o w R
theorem Comes1.val {V:Operand->Value}{o:Oper}{O:Obs}{K:AV->Obs->Bool->Option ρ}{r:ρ}{a:AV}{O':Obs}{b:Bool}{v:Value}(hK:K a O' b=some r)(hr:(execOp V o).run E.P w=.ok (.value v) w')(hm:Made own w G O own' w' G' O' b a v):
   Comes1 E V o own w G O K r:=⟨a,O',b,hK,fun _ hR=>.value hr (hR _ _ _ _ hm)⟩
theorem Comes1.skip {V:Operand->Value}{o:Oper}{O:Obs}{K:AV->Obs->Bool->Option ρ}{r:ρ}{O':Obs}{b:Bool}(hK:K .dead O' b=some r)(hr:(execOp V o).run E.P w=.ok .skip w')(hp:Post own own' w w' G G' O O' b):
   Comes1 E V o own w G O K r:=⟨.dead,O',b,hK,fun _ hR=>.skip hr (hR _ _ _ _ ⟨trivial,trivial,hp⟩)⟩
theorem Zfe(hE:EnvOk E){call:(g:Nat)->(s:Sg)->s.A.den->Option s.R.den}{f:Nat}{o:Oper}{ev:Operand->AV}{V:Operand->Value}{O:Obs}{P:Id->Prop}{K:AV->Obs->Bool->Option ρ}{r:ρ}(hM:Mem own w G O P)
   (hr:∀d,o.dst=some d->∀i,pre [d] i=true->¬P i) (hx:∀x∈o.op.operands.toList,AVv own w G (ev x) (V x)/\(ev x).men fun i=>has O i=true) (hc:∀v,V (.const v)=v)
   (hncall:∀g args at',o.op≠.call {callee:=.value g,args:=args,argTypes:=at'}) (hw:isW o=true) (h:opW E call f o ev O K=some r):Comes1 E V o own w G O K r:=by
 obtain ⟨dst,op,type,pos,after,guard⟩:=o;dsimp only at hr hx hncall;have nilCase:∀x:Operand,Z1q x=true->(op=.move x\/op=.assign x)->∀d,dst=some d->nilK E f d [d] O type (fun a O'=>K a O' false)=some r->Comes1 E V ⟨dst,op,type,pos,after,guard⟩ own w G O K r:=by
   intro x hn hop d hd hq;subst hd
   . unfold nilK at hq;obtain⟨j,hj,hq⟩:=Z5 hq;obtain⟨ho,hq⟩:=Z0 hq;have hJ:=hE.ti _ j hj;obtain⟨z,cs,hz,hcs,hv⟩:=Z90 hJ;have hzt:∃tid e,j.zero.t=.own tid e:=by
       cases hq2:j.zero.t<;>rw[hq2]at ho<;>first|exact⟨_,_,rfl⟩|cases ho
     obtain⟨tid,e,hzt⟩:=hzt;have hcs1:cs=[.slice none 0 0]:=by
       have:∀(t:Ty)(x:t.den),t=.own tid e->litC t x=some cs->cs=[.slice none 0 0]:=by
         intro t x ht hl;subst ht;simp only[litC]at hl;split at hl
         . cases hl;rfl
         . cases hl
       exact this _ _ hzt hcs
     obtain⟨a,O',G',own',hk,hm,_⟩:=Z82 hM (hr d rfl) hcs (v:=.slice none 0 0) (by rw[hzt,hcs1];rfl) hq;refine .val hk ?_ hm;have hxn:=Z4h hn;have hvx:V x=.slice none 0 0:=by rw[hxn];exact hc _
     rcases hop with rfl|rfl<;>simp[execOp,hvx]
 cases op with
 | move x=>
   simp only[opW]at h;split at h
   . exact nilCase x hw (.inl rfl) _ rfl h
   . cases h
 | assign x=>
   simp only[opW]at h;split at h
   . exact nilCase x hw (.inr rfl) _ rfl h
   . cases h
 | alloc T=>
   simp only[opW]at h;split at h
   . rename_i d;obtain⟨a,O',own',w',G',v,hk,hrun,hm⟩:=Zcl hE hM (hr d rfl) h;exact .val hk (by simp only[execOp,Sem.run_bind,hrun,Result.andThen_ok,Sem.run_pure]) hm
   . cases h
 | box T x=>
   simp only[opW]at h;split at h
   . rename_i d;obtain⟨_,h⟩:=Zs h;obtain⟨i,hi,h⟩:=Z5 h;obtain⟨h1,h⟩:=Z0 h;obtain⟨_,h⟩:=Z0 h;obtain⟨_,h⟩:=Z0 h;have hx1:=hx x (by simp[Op.operands]);unfold boxK at h;rcases Z8 h with⟨_,h⟩|⟨_,h⟩
     . split at h
       . rename_i t y hev;obtain⟨hpl,h⟩:=Z0 h;rw[hev]at hx1 h1;obtain⟨a,O',own',w',G',v,hk,hrun,hm⟩:=Zfc (E:=E) (T:=T) hM (hr d rfl) hx1.1 h1 hpl h;exact .val hk (by simp only[execOp,Sem.run_bind,hrun,Result.andThen_ok,Sem.run_pure]) hm
       . cases h
     . obtain⟨own',w',G',v,hk,hrun,hm⟩:=Zgq (E:=E) (T:=T) hM (hr d rfl _ (Zn _)) hx1.1 hx1.2 h1 h;exact .val hk (by simp only[execOp,Sem.run_bind,hrun,Result.andThen_ok,Sem.run_pure]) hm
   . cases h
 | build T ps=>
   simp only[opW]at h;split at h
   . rename_i d;obtain⟨i,hi,h⟩:=Z5 h;split at h
     . rename_i fs hd;obtain⟨ha,h⟩:=Z0 h;obtain⟨a,O',G',v,hk,hrun,hm⟩:=Zdx hE hi hd ha hM (hr d rfl) (V:=V) (fun x hx'=>hx x (by simpa[Op.operands]using hx')) h;exact .val hk (by simp only[execOp,Sem.run_bind,hrun,Result.andThen_ok,Sem.run_pure]) hm
     . cases h
   . cases h
 | buildSlice T n ps=>
   simp only[opW]at h;split at h
   . rename_i d;obtain⟨e,j,hT,hj,hJ,h⟩:=Zv hE h
     . split at h
       . rename_i hps;obtain⟨hn,hk0⟩:=Z0 h;have hn:=Z2 hn;subst hn;have hps:ps=#[]:=by apply Array.ext';simpa using hps
         subst hps;obtain⟨inf,z,cs,i1,i2,i3,i4,i5,i6⟩:=hJ.info;obtain⟨hrow,hpost⟩:=Z64 (tid:=e) (e:=ovT E f d j.zero.t) (xs:=[]) (r:=[d]) (cells:=[]) hM (by simp) (by simp) (fun i y hy=>by simp at hy);obtain⟨a,O',G',own',hk,hmade,_,hnew,_⟩:=Z2n (P:=P) ⟨hpost.objs,fun o c hc=>hM.box o c hc,hM.live,hpost.bound,Base.keep hM.base hpost.sealed⟩ (hr d rfl) hrow rfl hk0;refine .val hk (w':=w.alloc (.cells #[] e)) (v:=.slice (some ⟨w.heap.size,0,none⟩) 0 0) ?_ ⟨hmade.val,hmade.men,hpost.thenF hmade.post fun o ho _=>ho⟩;simp[execOp,Instr.buildSlice,run_underlying hT,sizeOf,typeInfo,i1,Instr.fill,newRow,newObj,Sem.run,show Array.range 0=#[]from rfl]
       . rename_i a l hps;obtain⟨h1,h⟩:=Z0 h;obtain⟨h2,h⟩:=Z0 h;obtain⟨u,y,O1,h,hag,hcel,he⟩:=Zgr h;obtain⟨h3,h⟩:=Z0 h;obtain⟨h4,h⟩:=Z0 h;have h':Z3p ev u O ps.toList 0 (fun ys O2=>mkK E f d [d] O2 (.own e u) ys fun a O3=>K a O3 true)=some r:=by
           rw[hps];simp only[Z3p];rw[show Nat.beq 0 0=true from rfl];simp only[nif,he,Z18];exact h
         have hlen:ps.toList.length=n:=by
           rw[hps];have:=Z2 h1;rw[Z3h]at this;simpa using this
         have h2':¬n*j.size=0/\n*j.size<=16777216:=by
           cases hz:Nat.beq (Nat.mul n j.size) 0
           . rw[hz]at h2;exact⟨fun e=>(by rw[show Nat.mul n j.size=0 from e]at hz;exact nomatch hz),Nat.le_of_ble_eq_true h2⟩
           . rw[hz]at h2;cases h2
         obtain⟨a,O',own',w',G',v,hk,hrun,hm⟩:=Zgs hT hJ hM (hr d rfl) (Z2 h3) hlen h2'.1 h2'.2 (V:=V) (fun x hx'=>(hx x (by simpa[Op.operands]using hx')).1) h';exact .val hk (by simp only[execOp,Sem.run_bind,hrun,Result.andThen_ok,Sem.run_pure]) hm
       . cases h
   . cases h
 | store T a x=>
   simp only[opW]at h;obtain⟨i,hi,h⟩:=Z5 h;obtain⟨_,h⟩:=Zs h;have h1:=hx a (by simp[Op.operands]);have h2:=hx x (by simp[Op.operands]);obtain⟨O',b,own',w',hk,hrun,hp⟩:=Zcs hE hi hM h1.1 h2.1 h2.2 h;exact .skip hk (by simp only[execOp,Sem.run_bind,hrun,Result.andThen_ok,Sem.run_pure]) hp
 | makeSlice T l c=>
   simp only[opW]at h;split at h
   . rename_i d n m hl hcc;obtain⟨e,j,hT,hj,hJ,h⟩:=Zv hE h;obtain⟨_,h⟩:=Z0 h;obtain⟨h1,h⟩:=Zk h;simp only[Bool.and_eq_true,decide_eq_true_eq]at h1;have h2:=hx l (by simp[Op.operands]);have h3:=hx c (by simp[Op.operands]);rw[hl]at h2;rw[hcc]at h3;obtain⟨e1,w1⟩:=h2.1.int;obtain⟨e2,w2⟩:=h3.1.int;obtain⟨⟨hnm,h5⟩,h6⟩:=h1;rw[<-hnm]at e2;obtain⟨a,O',own',w',G',v,hk,hrun,hm⟩:=Z92 hT hJ hM (hr d rfl) h5 h6 w1 h;exact .val hk (by simp only[execOp,e1,e2,Sem.run_bind,hrun,Result.andThen_ok,Sem.run_pure]) hm
   . cases h
 | makeMap T res=>
   cases res with
   |some q=>simp only[opW]at h;cases h
   | none=>
     simp only[opW]at h;split at h
     . rename_i d;obtain⟨kT,vT,hT,h⟩:=Z61 hE h;obtain⟨jk,hjk,h⟩:=Z5 h;obtain⟨jv,hjv,h⟩:=Z5 h;obtain⟨h1,h⟩:=Z0 h;obtain⟨h2,h⟩:=Z0 h;obtain⟨hn,h⟩:=Zb h;refine .val (own':=oput own w.heap.size (.ob [d] [])) (G':=gput G [d] ⟨.map (some w.heap.size),0,!(ovT E f d jv.zero.t).flat⟩) (w':=w.alloc (.map #[] 0)) (v:=.map (some w.heap.size)) h ?_ ⟨?_,(Zp _ _ _ _).2 (.inl rfl),?_⟩
       . simp[execOp,Instr.makeMap,newObj,Sem.run]
       . exact⟨_,⟨by rw[Z7],by rw[Z7];rfl⟩,rfl⟩
       . refine Post.alloc (Q:=P) hM.objs hM.box (hr d rfl _ (Zn _)) hM.bound hn ⟨by rw[Z7],?_⟩ (fun a e=>by cases e);rw[Z7];exact⟨Z62 h1,h2,.inr ⟨w.heap.size,#[],0,[],rfl,rfl,if_pos rfl,by simp,rfl,fun i m x hm=>by simp at hm⟩⟩
     . cases h
 | mapUpdate T m x z=>
   simp only[opW]at h;obtain⟨kT,vT,hT,h⟩:=Z61 hE h;have h1:=hx m (by simp[Op.operands]);have h2:=hx x (by simp[Op.operands]);have h3:=hx z (by simp[Op.operands]);obtain⟨O',b,own',w',hk,hrun,hp⟩:=Zbo hE hT hM h1.1 h2.1 h3.1 h;exact .skip hk (by simp only[execOp,Sem.run_bind,hrun,Result.andThen_ok,Sem.run_pure]) hp
 | call c=>
   obtain⟨callee,args,at'⟩:=c;cases callee with
   |value g=>exact(hncall g args at' rfl).elim
   |invoke g m=>simp only[opW]at h;cases h
   | builtin bi=>
     cases bi with
     | append=>
       simp only[opW]at h;split at h
       . rename_i d s x T T' hargs hat;have hargs:args=#[s,x]:=by apply Array.ext';simpa using hargs
         have hat:at'=#[T,T']:=by apply Array.ext';simpa using hat
         subst hargs hat;have h1:=hx s (by simp[Op.operands,Call.operands]);have h2:=hx x (by simp[Op.operands,Call.operands]);obtain⟨a,O',own',w',G',v,hk,hrun,hm⟩:=Zbr hE hM (hr d rfl) h1.1 h2.1 hc h type;exact .val hk (by simp[execOp,resolve,invoke,builtin,hrun]) hm
       . cases h
     | _=>simp only[opW]at h;cases h
 | _=>simp only[opW]at h;cases h
end Go.Pv
namespace Go.Pv
open Go Go.Great
variable {own own' own1 own2:Own}{w w' w1 w2:World}{G G' G1 G2:Gs}{ρ:Type}{E:Env}[Base]
def ArgR(own:Own)(w:World):PM->(t:Ty)->t.den->Nat->Value->Prop
 |.val,t,x,_,v=>t.plain=true/\∃cs,IsVal t.agg cs v/\Rep own w t x ⟨[],[],true⟩ cs
 |.mov,t,x,j,v=>∃cs,IsVal t.agg cs v/\Rep own w t x ⟨[j],[],true⟩ cs
 |.lendv,t,x,j,v=>∃cs,IsVal t.agg cs v/\Rep own w t x ⟨[j],[],true⟩ cs
 |.lend,t,x,j,v=>∃g cur T,v=.pointer (some ⟨g,0,none⟩)/\own g=.ob [j] []/\w.heap[g]?=some (.cells cur T (0,0))/\Rep own w t x ⟨[j,3],[],true⟩ cur.toList
def ArgsR(own:Own)(w:World):(ps:List (PM×Ty))->(chain (Z23 ps)).den->Nat->List Value->Prop
 |[],_,_,vs=>vs=[]
 |(m,t)::ps,l,j,vs=>∃v vs',vs=v::vs'/\ArgR own w m t l.1 j v/\ArgsR own w ps l.2 (j+1) vs'
def ArgsV(own:Own)(w:World)(G:Gs)(P:Id->Prop):List (Bool×AV)->List Value->Prop
 |[],vs=>vs=[]
 |(nil,a)::as,vs=>∃v vs',vs=v::vs'/\(nil=true->v=.slice none 0 0)/\(nil=false->AVv own w G a v/\a.men P)/\ArgsV own w G P as vs'
def strip:List Nat->List Nat->Option (List Nat)
 |[],s=>some s
 |a::l,b::s=>if a=b then strip l s else none
 | _::_,[]=>none
theorem strip_some:∀{l s q:List Nat},strip l s=some q↔s=l++q
 |[],s,q=>by simp[strip]
 |a::l,[],q=>by simp[strip]
 | a::l,b::s,q=>by
   simp only[strip];split
   . rename_i h;subst h;rw[strip_some (l:=l)];simp
   . rename_i h;simp[Ne.symm h]
theorem Zaf(l q:List Nat):strip l (l++q)=some q:=strip_some.2 rfl
def SK.way:SK->List Bool
 |.hd fp _=>fp
 | _=>[]
def Zct:Ty->Pos->List Nat->Option Lb
 |.pair a _,q,0::r=>Zct a (q.go 0) r
 |.pair _ b,q,1::r=>Zct b (q.go 1) r
 |.own _ _,q,r=>some (.ob q.id (q.sub++r))
 |.mp _ _ _,q,r=>some (.ob q.id (q.sub++r))
 |.bx t,q,2::r=>Zct t (q.go 2) r
 |.bx _,q,[]=>some (.ob q.id q.sub)
 | _,_,_=>none
theorem Mv.fromLow {o:Id}:∀{t:Ty}{q:Pos}{s0:List Nat},(∀g r m,own g=.ob o (s0++r)->Zct t q r=some m->own' g=m/\w'.heap[g]?=w.heap[g]?)->Mv own w own' w' t ⟨o,s0,false⟩ q
 |.int _,_,_,_=>trivial
 |.bool,_,_,_=>trivial
 |.str,_,_,_=>trivial
 |.unit,_,_,_=>trivial
 |.slc _,_,_,_=>trivial
 |.sptr _,_,_,_=>trivial
 |.hole _,_,_,_=>trivial
 |.arr _ _,_,_,_=>trivial
 |.nilp,_,_,_=>trivial
 |.fo,_,_,_=>trivial
 |.hdr,_,_,_=>trivial
 |.clo _ _,_,_,_=>trivial
 |.pair a b,q,s0,h=>⟨Mv.fromLow fun g r m hg hm=>h g (0::r) m (by simpa using hg) hm,Mv.fromLow fun g r m hg hm=>h g (1::r) m (by simpa using hg) hm⟩
 | .own _ e,q,s0,h=>by
   refine⟨fun g hg=>?_,fun i=>Mv.sub (s:=s0++[i]) (s':=q.sub++[i]) fun g r hg=>?_⟩
   . have:=h g [] _ (by simpa[Pos.lb]using hg) rfl;simpa[Pos.lb]using this
   . have:=h g (i::r) _ (by simpa using hg) rfl;simpa using this
 | .mp _ _ v,q,s0,h=>by
   refine⟨fun g hg=>?_,fun i=>Mv.sub (s:=s0++[i]) (s':=q.sub++[i]) fun g r hg=>?_⟩
   . have:=h g [] _ (by simpa[Pos.lb]using hg) rfl;simpa[Pos.lb]using this
   . have:=h g (i::r) _ (by simpa using hg) rfl;simpa using this
 | .bx t,q,s0,h=>by
   refine⟨fun g hg=>?_,Mv.fromLow fun g r m hg hm=>h g (2::r) m (by simpa using hg) hm⟩;have:=h g [] _ (by simpa[Pos.lb]using hg) rfl;simpa[Pos.lb]using this
theorem Mv.toLow {o:Id}:∀{t:Ty}{id:Id}{s0:List Nat},(∀g p s,own g=.ob (id++p) s->own' g=.ob o (s0++(p++s))/\w'.heap[g]?=w.heap[g]?)->Mv own w own' w' t ⟨id,[],true⟩ ⟨o,s0,false⟩
 |.int _,_,_,_=>trivial
 |.bool,_,_,_=>trivial
 |.str,_,_,_=>trivial
 |.unit,_,_,_=>trivial
 |.slc _,_,_,_=>trivial
 |.sptr _,_,_,_=>trivial
 |.hole _,_,_,_=>trivial
 |.arr _ _,_,_,_=>trivial
 |.nilp,_,_,_=>trivial
 |.fo,_,_,_=>trivial
 |.hdr,_,_,_=>trivial
 |.clo _ _,_,_,_=>trivial
 | .pair a b,id,s0,h=>by
   refine⟨Mv.toLow (id:=id++[0]) (s0:=s0++[0]) fun g p s hg=>?_,Mv.toLow (id:=id++[1]) (s0:=s0++[1]) fun g p s hg=>?_⟩
   . have:=h g (0::p) s (by simpa using hg);simpa using this
   . have:=h g (1::p) s (by simpa using hg);simpa using this
 | .own _ e,id,s0,h=>by
   refine⟨fun g hg=>?_,fun i=>Mv.sub (s:=[i]) (s':=s0++[i]) fun g r hg=>?_⟩
   . have:=h g [] [] (by simpa[Pos.lb]using hg);simpa[Pos.lb]using this
   . have:=h g [] (i::r) (by simpa using hg);simpa using this
 | .mp _ _ v,id,s0,h=>by
   refine⟨fun g hg=>?_,fun i=>Mv.sub (s:=[i]) (s':=s0++[i]) fun g r hg=>?_⟩
   . have:=h g [] [] (by simpa[Pos.lb]using hg);simpa[Pos.lb]using this
   . have:=h g [] (i::r) (by simpa using hg);simpa using this
 | .bx t,id,s0,h=>by
   refine⟨fun g hg=>?_,Mv.toLow (id:=id++[2]) (s0:=s0++[2]) fun g p s hg=>?_⟩
   . have:=h g [] [] (by simpa[Pos.lb]using hg);simpa[Pos.lb]using this
   . have:=h g (2::p) s (by simpa using hg);simpa using this
def Z6s(t:Ty)(i j:Nat)(s:List Nat):Option Lb:=
 if s=[i]then some (.ob [j] [])else match strip [i,2] s with
   |some r=>Zct t ⟨[j,3],[],true⟩ r
   |none=>none
theorem Zff {t:Ty}{i j:Nat}{s:List Nat}{m:Lb}(h:Z6s t i j s=some m):∃r,s=i::r:=by
 unfold Z6s at h;split at h
 . rename_i e;exact⟨[],e⟩
 . split at h
   . rename_i r hr;exact⟨2::r,strip_some.1 hr⟩
   . cases h
def relA(O:Obs):List (PM×Ty)->List (Bool×AV)->Nat->Id->List Nat->Option Lb
 |(.val,_)::ps,_::as,j,o,s=>relA O ps as (j+1) o s
 |(.mov,_)::ps,(true,_)::as,j,o,s=>relA O ps as (j+1) o s
 | (.mov,_)::ps,(false,a)::as,j,o,s=>match a.rel ⟨[j],[],true⟩ o s with
   |some m=>some m
   |none=>relA O ps as (j+1) o s
 | (.lend,_)::ps,(_,.p b _ _)::as,j,o,s=>if o=b/\s=[]then some (.ob [j] [])else match look O b with
   | some (.box c)=>(match c.rel ⟨[j,3],[],true⟩ o s with
     |some m=>some m
     |none=>relA O ps as (j+1) o s)
   | _=>relA O ps as (j+1) o s
 | (.lend,_)::ps,(_,.s b i _)::as,j,o,s=>match look O b with
   | some (.map _ _ (.bx t) _)=>(match(if o=b then Z6s t i j s else none)with
     |some m=>some m
     |none=>relA O ps as (j+1) o s)
   | _=>relA O ps as (j+1) o s
 | (.lendv,_)::ps,(_,.s b i k)::as,j,o,s=>match(if o=b then strip (i::pn k.way) s else none)with
   |some q=>some (.ob [j] q)
   |none=>relA O ps as (j+1) o s
 | (.lendv,_)::ps,(_,a)::as,j,o,s=>match a.rel ⟨[j],[],true⟩ o s with
   |some m=>some m
   |none=>relA O ps as (j+1) o s
 | _,_,_,_,_=>none
theorem AV.rel_rf {a:AV}{p:Pos}{o:Id}{s:List Nat}{m:Lb}(h:a.rel p o s=some m):a.rf o:=Classical.byContradiction fun hb=>by rw[AV.rel_none hb]at h;cases h
theorem Mv.sub1 {o q:Id}{s:List Nat}{tid:Nat}{e:Ty}(h:∀g r,own g=.ob o (s++r)->own' g=.ob q r/\w'.heap[g]?=w.heap[g]?):Mv own w own' w' (.own tid e) ⟨o,s,false⟩ ⟨q,[],true⟩:=by
 refine⟨fun g hg=>h g [] (by simpa[Pos.lb]using hg),fun k=>Mv.sub (s:=s++[k]) (s':=[k]) fun g r hg=>?_⟩;have:=h g (k::r) (by simpa[Pos.el]using hg);simpa using this
theorem Zep {a:AV}{v:Value}{O:Obs}{t:Ty}{K:t.den->Obs->Option ρ}{r:ρ}{p:Pos}(ha:AVv own w G a v)(hO:Objs own w G O)(h:pkK a O (fun u y O1=>Ze u t y fun x=>K x O1)=some r):
   ∃x O1,K x O1=some r/\Less a O O1/\∀{own1:Own},Sealed own w own1 w->(∀g o s m,own g=.ob o s->a.rel p o s=some m->own1 g=m)->∃cs,IsVal t.agg cs v/\Rep own1 w t x p cs:=by
 obtain⟨u,y,O1,h1,hag,hcel,he⟩:=Z65 h;obtain⟨cs,hc,hv⟩:=ha.cells hcel;obtain⟨u',y',O1',hk,hless,hdis,hrep⟩:=Z2j (K:=fun u y O1=>some (⟨⟨u,y⟩,O1⟩:(Σ u:Ty,u.den)×Obs)) (r:=⟨⟨u,y⟩,O1⟩) hc hO (he _);simp only[Option.some.injEq,Prod.mk.injEq,Sigma.mk.injEq]at hk;obtain⟨⟨rfl,hyy⟩,rfl⟩:=hk;cases hyy;obtain⟨hue,h1⟩:=Z3 h1;subst hue;exact⟨_,_,h1,hless,fun hs hm=>⟨cs,by rw[hag];exact hv,hrep hs (Mvs.of hdis fun g i s l hg hl=>⟨hm g i s l hg hl,rfl⟩)⟩⟩
theorem Less.sub {a:AV}{O O1:Obs}(h:Less a O O1):∀o b,look O1 o=some b->look O o=some b/\¬a.rf o:=by
 intro o b hb;by_cases ha:a.rf o
 . rw[h.gone o ha]at hb;cases hb
 . exact⟨(h.kept o ha).symm.trans hb,ha⟩
theorem Zgt {a:AV}{O:Obs}{K:(t:Ty)->t.den->Obs->Option ρ}{r:ρ}{o:Id}{c:AV}(h:pkK a O K=some r)(hl:look O o=some (.box c)):True/\¬a.rf o:=by
 obtain⟨_,_,_,_,e⟩:=Zbn h;exact⟨trivial,(e o c hl).2⟩
theorem Z7i:∀{k:Nat}{a:AV}{O:Obs}{K:(t:Ty)->t.den->Bool->Option ρ}{r:ρ},vwK k a O K=some r->
   ∃u y c,K u y c=some r/\u.agg=a.agg/\a.cel=true/\∀{σ:Type}(K':(t:Ty)->t.den->Bool->Option σ),vwK k a O K'=K' u y c
 |0,_,_,_,_,h=>by simp only[vwK]at h;cases h
 |k+1,.v t x,O,K,r,h=>⟨_,_,_,h,rfl,rfl,fun _=>rfl⟩
 | k+1,.pr a b,O,K,r,h=>by
   simp only[vwK]at h⊢;obtain⟨u,y,c,h,_,_,e1⟩:=Z7i h;obtain⟨v,z,d,h,_,_,e2⟩:=Z7i h;exact⟨_,_,_,h,rfl,rfl,fun K'=>by rw[e1,e2]⟩
 | k+1,.ref o,O,K,r,h=>by
   simp only[vwK]at h⊢;split at h
   . exact⟨_,_,_,h,rfl,rfl,fun K'=>rfl⟩
   . cases h
 | k+1,.hs o lo n,O,K,r,h=>by
   simp only[vwK]at h⊢;split at h
   . exact⟨_,_,_,h,rfl,rfl,fun K'=>rfl⟩
   . cases h
 | k+1,.s o i (.hd fp n),O,K,r,h=>by
   simp only[vwK]at h⊢;split at h
   . obtain⟨h0,h⟩:=Z0 h;obtain⟨y,hy,h⟩:=bind_some h;obtain⟨tid,e2,ys,h,_,he,_⟩:=Z1t h;exact⟨_,_,_,h,rfl,rfl,fun K'=>by rw[h0,hy];simp only[nif,Option.bind_some,he]⟩
   . cases h
 |k+1,.s _ _ (.el _ _ _ _),_,_,_,h=>by simp only[vwK]at h;cases h
 |k+1,.s _ _ (.bx _ _),_,_,_,h=>by simp only[vwK]at h;cases h
 | k+1,.e o i fp n,O,K,r,h=>by
   simp only[vwK]at h⊢;split at h
   . obtain⟨h0,h⟩:=Z0 h;obtain⟨y,hy,h⟩:=bind_some h;obtain⟨u,z,h,_,he,_⟩:=Zel (K:=fun u z=>K (Ty.sptr u).sh (toSh (.sptr u) z) true) h;refine⟨_,_,_,h,rfl,rfl,fun K'=>?_⟩;rw[h0,hy];simp only[nif,Option.bind_some];rw[Z2t,he];rfl
   . cases h
 | k+1,.p o fp n,O,K,r,h=>by
   simp only[vwK]at h⊢;split at h
   . rename_i a hl;obtain⟨h0,h⟩:=Z0 h;rw[Z2t]at h;obtain⟨b,hb,h⟩:=bind_some h;obtain⟨u,y,c,h,_,_,e1⟩:=Z7i h;exact⟨_,_,_,h,rfl,rfl,fun K'=>by rw[h0,Z2t,hb];simp only[nif,Option.bind_some,e1]⟩
   . cases h
 | k+1,.ap o n,O,K,r,h=>by
   simp only[vwK]at h⊢;split at h
   . obtain⟨h0,h⟩:=Z0 h;exact⟨_,_,_,h,rfl,rfl,fun K'=>by rw[h0];rfl⟩
   . cases h
 | k+1,.cl f a,O,K,r,h=>by
   simp only[vwK]at h⊢;obtain⟨u,y,c,h,_,_,e1⟩:=Z7i h;exact⟨_,_,_,h,rfl,rfl,fun K'=>by rw[e1]⟩
 |k+1,.dead,_,_,_,h=>by simp only[vwK]at h;cases h
 |k+1,.tn,_,_,_,h=>by simp only[vwK]at h;cases h
 |k+1,.tp _ _,_,_,_,h=>by simp only[vwK]at h;cases h
 |k+1,.hole _,_,_,_,h=>by simp only[vwK]at h;cases h
theorem Zhe {o:Id}{i:Nat}{k:SK}{O:Obs}{K:(t:Ty)->t.den->Obs->Option ρ}{r:ρ}(h:pkK (.s o i k) O K=some r):False:=by simp only[pkK]at h;cases h
theorem Z1h {O0:Obs}:∀{ps:List (PM×Ty)}{as:List (Bool×AV)}{vs:List Value}{O:Obs}{j:Nat}{P:Id->Prop}{K:(chain (Z23 ps)).den->Obs->Bool->Option ρ}{r:ρ},ArgsV own w G P as vs->Objs own w G O->(∀o b,look O o=some b->look O0 o=some b)->Zc ps as O K=some r->
   ∃ l O' b,K l O' b=some r/\(∀o bb,look O' o=some bb->look O o=some bb)/\(∀o s m,relA O0 ps as j o s=some m->has O o=true/\has O' o=false)/\
     ∀{own1:Own},Sealed own w own1 w->(∀g o s m,own g=.ob o s->relA O0 ps as j o s=some m->own1 g=m)->(b=true->∀g o s,own g=.ob o s->has O' o=true->own1 g=.sh)->ArgsR own1 w ps l j vs
 |[],[],vs,O,j,P,K,r,hv,hO,hsub,h=>⟨(),O,false,h,fun _ _ h=>h,fun o s m hm=>by simp[relA]at hm,fun _ _ _=>hv⟩
 | (.val,t)::ps,(nil,a)::as,vs,O,j,P,K,r,hv,hO,hsub,h=>by
   obtain⟨v,vs',rfl,hn1,hn2,hv'⟩:=hv;simp only[Zc]at h;obtain⟨l,O',b,h,h1,h2,h3⟩:=Z1h (j:=j+1) hv' hO hsub h;obtain⟨hp,h⟩:=Z0 h;have hO':Objs own w G O':=fun o bb hb=>hO o bb (h1 o bb hb)
   rcases Z8 h with⟨hnil,h⟩|⟨hnil,h⟩
   . cases t with
     | slc e=>
       refine⟨_,O',b,h,h1,fun o s m hm=>h2 o s m (by simpa[relA]using hm),fun hs hm hb=>⟨v,vs',rfl,⟨hp,[.slice none 0 0],by rw[hn1 hnil];rfl,?_⟩,h3 hs (fun g o s m hg hm'=>hm g o s m hg (by simpa[relA]using hm')) hb⟩⟩;exact⟨hp,none,0,rfl,Nat.le_refl _,by simp[maxLen],fun i y hy=>by simp at hy⟩
     | _=>cases h
   . obtain⟨ha,_⟩:=hn2 hnil;obtain⟨u,y,c,h,hag,hcel,he⟩:=Z7i h;obtain⟨cs,hc,hvv⟩:=ha.cells hcel;obtain⟨u',y',c',hk,hrep⟩:=vwK_some (K:=fun u y c=>some (⟨⟨u,y⟩,c⟩:(Σ u:Ty,u.den)×Bool)) (r:=⟨⟨u,y⟩,c⟩) hc hO' (he _);simp only[Option.some.injEq,Prod.mk.injEq,Sigma.mk.injEq]at hk;obtain⟨⟨rfl,hyy⟩,rfl⟩:=hk;cases hyy;obtain⟨hue,h⟩:=Z3 h;subst hue;refine⟨_,O',_,h,h1,fun o s m hm=>h2 o s m (by simpa[relA]using hm),fun hs hm hb=>⟨v,vs',rfl,⟨hp,cs,by rw[hag];exact hvv,?_⟩,h3 hs (fun g o s m hg hm'=>hm g o s m hg (by simpa[relA]using hm')) fun e=>hb (by rw[e];rfl)⟩⟩;exact hrep hs (fun e g o s hg ho=>⟨hb (by rw[e];cases b<;>rfl) g o s hg ho,rfl⟩) hp
 | (.mov,t)::ps,(true,a)::as,vs,O,j,P,K,r,hv,hO,hsub,h=>by
   obtain⟨v,vs',rfl,hn1,hn2,hv'⟩:=hv;simp only[Zc,nif]at h;cases t with
   | own tid e=>
     obtain⟨l,O',b,h,h1,h2,h3⟩:=Z1h (j:=j+1) hv' hO hsub h;exact⟨_,O',b,h,h1,fun o s m hm=>h2 o s m (by simpa[relA]using hm),fun hs hm hb=>⟨v,vs',rfl,⟨[.slice none 0 0],by rw[hn1 rfl];rfl,.inl ⟨rfl,rfl⟩⟩,h3 hs (fun g o s m hg hm'=>hm g o s m hg (by simpa[relA]using hm')) hb⟩⟩
   | _=>cases h
 | (.mov,t)::ps,(false,a)::as,vs,O,j,P,K,r,hv,hO,hsub,h=>by
   obtain⟨v,vs',rfl,hn1,hn2,hv'⟩:=hv;simp only[Zc,nif]at h;obtain⟨ha,hmm⟩:=hn2 rfl;clear hmm;obtain⟨x,O1,h,hless,hrep⟩:=Zep (p:=⟨[j],[],true⟩) (t:=t) (K:=fun x O1=>Zc ps as O1 fun l O' b=>K (x,l) O' b) ha hO h;have hO1:=hO.less hless;obtain⟨l,O',b,h,h1,h2,h3⟩:=Z1h (j:=j+1) hv' hO1 (fun o b hb=>hsub o b (hless.sub o b hb).1) h;refine⟨_,O',b,h,fun o bb hb=>(hless.sub o bb (h1 o bb hb)).1,?_,fun hs hm hb=>⟨v,vs',rfl,hrep hs fun g o s m hg hr=>hm g o s m hg (by simp only[relA,hr]),h3 hs (fun g o s m hg hr=>hm g o s m hg ?_) hb⟩⟩
   . intro o s m hm;simp only[relA]at hm;split at hm
     . rename_i m' hr;have hf:=AV.rel_rf hr;refine⟨hless.there o hf,?_⟩;cases e:has O' o
       . rfl
       . obtain⟨bb,hbb⟩:=has_look.1 e;exact((hless.sub o bb (h1 o bb hbb)).2 hf).elim
     . obtain⟨h4,h5⟩:=h2 o s m hm;obtain⟨bb,hbb⟩:=has_look.1 h4;exact⟨Z1 (hless.sub o bb hbb).1,h5⟩
   . have hnf:¬a.rf o:=by
       obtain⟨bb,hbb⟩:=has_look.1 (h2 o s m hr).1;exact(hless.sub o bb hbb).2
     simp only[relA,AV.rel_none hnf,hr]
 |(.lend,t)::ps,(true,a)::as,vs,O,j,P,K,r,hv,hO,hsub,h=>by simp only[Zc]at h;cases h
 | (.lend, t)::ps,(false,a)::as,vs,O,j,P,K,r,hv,hO,hsub,h=>by
   obtain⟨v,vs',rfl,hn1,hn2,hv'⟩:=hv;obtain⟨ha,hmm⟩:=hn2 rfl;clear hmm;simp only[Zc]at h;split at h
   . rename_i bx;split at h
     . rename_i c hl;obtain⟨hn,g0,cur,T,hgv,hown,hheap,hcc⟩:=hO bx _ hl;obtain⟨g1,hgv',hcell⟩:=ha.one rfl rfl;rw[hgv]at hgv';cases hgv';simp only[List.cons.injEq,and_true]at hcell;subst hcell;obtain⟨u,y,O1,h,hag,hcel,he⟩:=Z65 h;obtain⟨u',y',O1',hk,hless,hdis,hrep⟩:=Z2j (K:=fun u y O1=>some (⟨⟨u,y⟩,O1⟩:(Σ u:Ty,u.den)×Obs)) (r:=⟨⟨u,y⟩,O1⟩) hcc hO (he _);simp only[Option.some.injEq,Prod.mk.injEq,Sigma.mk.injEq]at hk;obtain⟨⟨rfl,hyy⟩,rfl⟩:=hk;cases hyy;obtain⟨hue,h⟩:=Z3 h;subst hue;rw[Z4]at h;have hsub1:∀o b,look (Z16 O1' bx) o=some b->look O o=some b/\¬c.rf o/\o≠bx:=by
         intro o b hb;rw[Za]at hb;split at hb
         . cases hb
         . rename_i hne;exact⟨(hless.sub o b hb).1,(hless.sub o b hb).2,hne⟩
       obtain⟨l,O',b,h,h1,h2,h3⟩:=Z1h (j:=j+1) hv' (fun o b hb=>hO o b (hsub1 o b hb).1) (fun o b hb=>hsub o b (hsub1 o b hb).1) h;have hl0:=hsub bx _ hl;refine⟨_,O',b,h,fun o bb hb=>(hsub1 o bb (h1 o bb hb)).1,?_,fun hs hm hb=>⟨_,vs',rfl,⟨g0,cur,T,rfl,hm g0 bx [] _ hown (by simp only[relA,and_self,if_true]),hheap,hrep hs (Mvs.of hdis fun g i s l hg hl=>⟨hm g i s l hg ?_,rfl⟩)⟩,h3 hs (fun g o s m hg hr=>hm g o s m hg ?_) hb⟩⟩
       . intro o s m hm;simp only[relA]at hm;split at hm
         . rename_i hob;refine⟨by rw[hob.1];exact Z1 hl,?_⟩;cases e:has O' o
           . rfl
           . obtain⟨bb,hbb⟩:=has_look.1 e;exact((hsub1 o bb (h1 o bb hbb)).2.2 hob.1).elim
         . rw[hl0]at hm;dsimp only at hm;split at hm
           . rename_i m' hr;have hf:=AV.rel_rf hr;refine⟨hless.there o hf,?_⟩;cases e:has O' o
             . rfl
             . obtain⟨bb,hbb⟩:=has_look.1 e;exact((hsub1 o bb (h1 o bb hbb)).2.1 hf).elim
           . obtain⟨h4,h5⟩:=h2 o s m hm;obtain⟨bb,hbb⟩:=has_look.1 h4;exact⟨Z1 (hsub1 o bb hbb).1,h5⟩
       ·
         have hne:¬(i=bx/\s=[]):=by
           rintro⟨rfl,_⟩;exact(Zgt (he (fun u y O1=>some (⟨⟨u,y⟩,O1⟩:(Σ u:Ty,u.den)×Obs))) hl).2 (AV.rel_rf ‹_›)
         simp only[relA,if_neg hne,hl0,hl]
       . obtain⟨bb,hbb⟩:=has_look.1 (h2 o s m hr).1;obtain⟨_,hnf,hne⟩:=hsub1 o bb hbb;simp only[relA,hl0,AV.rel_none hnf,if_neg (fun e:o=bx/\s=[]=>hne e.1),hr]
     . cases h
   . rename_i bx i;split at h
     . rename_i tid kk u es hl;obtain⟨x,hx,h⟩:=bind_some h;obtain⟨hue,h⟩:=Z3 h;subst hue;rw[Z4]at h;obtain⟨hnest,g,en,clk,mm,g2,hgv,hg,hmm',hmv,hcell⟩:=ha.one rfl rfl;simp only[List.cons.injEq,and_true]at hcell;subst hcell;obtain⟨_,hr⟩:=hO bx _ hl;rw[hgv]at hr;obtain⟨cur,T2,hg2,hcont,hown⟩:=Zbi hr hg hmm' hx hmv;have hown:own g2=.ob bx [i]:=hown;have hsub1:∀o b,look (Z16 O bx) o=some b->look O o=some b/\o≠bx:=by
         intro o b hb;rw[Za]at hb;split at hb
         . cases hb
         . rename_i hne;exact⟨hb,hne⟩
       obtain⟨l,O',b,h,h1,h2,h3⟩:=Z1h (j:=j+1) hv' (fun o b hb=>hO o b (hsub1 o b hb).1) (fun o b hb=>hsub o b (hsub1 o b hb).1) h;have hl0:=hsub bx _ hl;refine⟨_,O',b,h,fun o bb hb=>(hsub1 o bb (h1 o bb hb)).1,?_,fun {own1} hs hm hb=>⟨_,vs',rfl,⟨g2,cur,T2,rfl,hm g2 bx [i] _ hown ?_,hg2,Rep.move hs (Mv.fromLow (o:=bx) (s0:=[i,2]) fun g r m hgr hm2=>⟨hm g bx ([i,2]++r) m hgr ?_,rfl⟩) hcont⟩,h3 hs (fun g o s m hg hr=>hm g o s m hg ?_) hb⟩⟩
       . intro o s m hm;simp only[relA,hl0]at hm;split at hm
         . rename_i m' hob;split at hob
           . rename_i hob';refine⟨by rw[hob'];exact Z1 hl,?_⟩;cases e:has O' o
             . rfl
             . obtain⟨bb,hbb⟩:=has_look.1 e;exact((hsub1 o bb (h1 o bb hbb)).2 hob').elim
           . cases hob
         . obtain⟨h4,h5⟩:=h2 o s m hm;obtain⟨bb,hbb⟩:=has_look.1 h4;exact⟨Z1 (hsub1 o bb hbb).1,h5⟩
       . simp only[relA,hl0,if_true,Z6s]
       . simp only[relA,hl0,if_true,Z6s];rw[if_neg (by simp),Zaf];simp only[hm2]
       . obtain⟨bb,hbb⟩:=has_look.1 (h2 o s m hr).1;have hne:=(hsub1 o bb hbb).2;simp only[relA,hl0,if_neg hne,hr]
     . cases h
   . cases h
 |(.lendv,t)::ps,(true,a)::as,vs,O,j,P,K,r,hv,hO,hsub,h=>by simp only[Zc]at h;cases h
 | (.lendv, t)::ps,(false,a)::as,vs,O,j,P,K,r,hv,hO,hsub,h=>by
   obtain⟨v,vs',rfl,hn1,hn2,hv'⟩:=hv;obtain⟨ha,hmm⟩:=hn2 rfl;clear hmm;by_cases hS:∃bx i fp n,a=.s bx i (.hd fp n)
   . obtain ⟨bx,i,fp,n,rfl⟩:=hS;simp only[Zc]at h;split at h
     . rename_i tid0 e xs hl;obtain⟨hof,h⟩:=Z0 h;have hof:=Z2 hof;obtain⟨y,hy,h⟩:=bind_some h;obtain⟨tid,e2,ys,h,_,_,hrep⟩:=Z1t h;obtain⟨hue,h⟩:=Z3 h;subst hue;rw[Z4]at h;have hsub1:∀o b,look (Z16 O bx) o=some b->look O o=some b/\o≠bx:=by
         intro o b hb;rw[Za]at hb;split at hb
         . cases hb
         . rename_i hne;exact⟨hb,hne⟩
       obtain⟨l,O',b,h,h1,h2,h3⟩:=Z1h (j:=j+1) hv' (fun o b hb=>hO o b (hsub1 o b hb).1) (fun o b hb=>hsub o b (hsub1 o b hb).1) h;obtain⟨hsz,hnest,hr⟩:=hO bx _ hl;obtain⟨_,A,m0,c0,u,hgv,hi,hu,hcell,_⟩:=ha.one rfl rfl;simp only[List.cons.injEq,and_true]at hcell;subst hcell;rw[hgv]at hr;obtain⟨g,cur,cap,rfl,rfl,ho,hg,_,_,_,rfl,_,hel⟩:=Z1b hr hy;obtain⟨c1,u',c3,hcs,hl1,hy1⟩:=hrep hel;have hu2:=Z2b hg hcs;rw[hl1,hof,<-hsz,hu]at hu2;cases hu2;rw[show((⟨bx,[],true⟩:Pos).el i)=⟨bx,[i],false⟩from rfl,Pos.at_low]at hy1;refine⟨_,O',b,h,fun o bb hb=>(hsub1 o bb (h1 o bb hb)).1,?_,fun hs hm hb=>⟨v,vs',rfl,⟨[v],rfl,Rep.move hs (Mv.sub1 fun g q hgq=>⟨hm g bx _ _ hgq (by simp only[relA,if_true];rw[show i::pn (SK.way (.hd fp n))=[i]++pn fp from rfl,Zaf]),rfl⟩) hy1⟩,h3 hs (fun g o s m hg hr=>hm g o s m hg ?_) hb⟩⟩
       . intro o s m hm;simp only[relA]at hm;split at hm
         . rename_i q hq;split at hq
           . rename_i hob;refine⟨by rw[hob];exact Z1 hl,?_⟩;cases e:has O' o
             . rfl
             . obtain⟨bb,hbb⟩:=has_look.1 e;exact((hsub1 o bb (h1 o bb hbb)).2 hob).elim
           . cases hq
         . obtain⟨h4,h5⟩:=h2 o _ m hm;obtain⟨bb,hbb⟩:=has_look.1 h4;exact⟨Z1 (hsub1 o bb hbb).1,h5⟩
       . obtain⟨bb,hbb⟩:=has_look.1 (h2 o s m hr).1;have hne:=(hsub1 o bb hbb).2;simp only[relA,if_neg hne,hr]
     . cases h
   . have h':pkK a O (fun u y O1=>Ze u t y fun x=>Zc ps as O1 fun l O' b=>K (x,l) O' b)=some r:=by
       cases a<;>first|exact h|(rename_i k;cases k<;>first|exact(hS ⟨_,_,_,_,rfl⟩).elim|exact h)
     have hrelA:∀o s,relA O0 ((.lendv,t)::ps) ((false,a)::as) j o s=(match a.rel ⟨[j],[],true⟩ o s with|some m=>some m|none=>relA O0 ps as (j+1) o s):=by
       intro o s;cases a<;>first|rfl|(rename_i k;cases k<;>exact(Zhe h').elim)
     obtain⟨x,O1,h,hless,hrep⟩:=Zep (p:=⟨[j],[],true⟩) (t:=t) (K:=fun x O1=>Zc ps as O1 fun l O' b=>K (x,l) O' b) ha hO h';have hO1:=hO.less hless;obtain⟨l,O',b,h,h1,h2,h3⟩:=Z1h (j:=j+1) hv' hO1 (fun o b hb=>hsub o b (hless.sub o b hb).1) h;refine⟨_,O',b,h,fun o bb hb=>(hless.sub o bb (h1 o bb hb)).1,?_,fun hs hm hb=>⟨v,vs',rfl,hrep hs fun g o s m hg hr=>hm g o s m hg (by rw[hrelA,hr]),h3 hs (fun g o s m hg hr=>hm g o s m hg ?_) hb⟩⟩
     . intro o s m hm;rw[hrelA]at hm;split at hm
       . rename_i m' hr;have hf:=AV.rel_rf hr;refine⟨hless.there o hf,?_⟩;cases e:has O' o
         . rfl
         . obtain⟨bb,hbb⟩:=has_look.1 e;exact((hless.sub o bb (h1 o bb hbb)).2 hf).elim
       . obtain⟨h4,h5⟩:=h2 o s m hm;obtain⟨bb,hbb⟩:=has_look.1 h4;exact⟨Z1 (hless.sub o bb hbb).1,h5⟩
     . have hnf:¬a.rf o:=by
         obtain⟨bb,hbb⟩:=has_look.1 (h2 o s m hr).1;exact(hless.sub o bb hbb).2
       rw[hrelA,AV.rel_none hnf];exact hr
 |[],_::_,_,_,_,_,_,_,_,_,_,h=>by simp only[Zc]at h;cases h
 | _::_,[],_,_,_,_,_,_,_,_,_,h=>by simp only[Zc]at h;cases h
end Go.Pv
namespace Go.Pv
open Go Go.Great
variable {own own' own1 own2:Own}{w w' w1 w2:World}{G G' G1 G2:Gs}{ρ:Type}{E:Env}[Base]
theorem Mv.root:∀{t:Ty}{id id':Id},(∀g p s,own g=.ob (id++p) s->own' g=.ob (id'++p) s/\w'.heap[g]?=w.heap[g]?)->Mv own w own' w' t ⟨id,[],true⟩ ⟨id',[],true⟩
 |.int _,_,_,_=>trivial
 |.bool,_,_,_=>trivial
 |.str,_,_,_=>trivial
 |.unit,_,_,_=>trivial
 |.slc _,_,_,_=>trivial
 |.sptr _,_,_,_=>trivial
 |.hole _,_,_,_=>trivial
 |.arr _ _,_,_,_=>trivial
 |.nilp,_,_,_=>trivial
 |.fo,_,_,_=>trivial
 |.hdr,_,_,_=>trivial
 |.clo _ _,_,_,_=>trivial
 | .mp _ _ v,id,id',h=>by
   refine⟨fun g hg=>?_,fun i=>Mv.sub fun g r hg=>?_⟩
   . have:=h g [] [] (by simpa[Pos.lb]using hg);simpa[Pos.lb]using this
   . have:=h g [] (i::r) (by simpa using hg);simpa using this
 | .pair a b,id,id',h=>by
   refine⟨Mv.root (id:=id++[0]) (id':=id'++[0]) fun g p s hg=>?_,Mv.root (id:=id++[1]) (id':=id'++[1]) fun g p s hg=>?_⟩
   . have:=h g (0::p) s (by simpa using hg);simpa using this
   . have:=h g (1::p) s (by simpa using hg);simpa using this
 | .own _ e,id,id',h=>by
   refine⟨fun g hg=>?_,fun i=>Mv.sub fun g r hg=>?_⟩
   . have:=h g [] [] (by simpa[Pos.lb]using hg);simpa[Pos.lb]using this
   . have:=h g [] (i::r) (by simpa using hg);simpa using this
 | .bx t,id,id',h=>by
   refine⟨fun g hg=>?_,Mv.root (id:=id++[2]) (id':=id'++[2]) fun g p s hg=>?_⟩
   . have:=h g [] [] (by simpa[Pos.lb]using hg);simpa[Pos.lb]using this
   . have:=h g (2::p) s (by simpa using hg);simpa using this
theorem Rep.moveAp:∀{t:Ty}{x:t.den}{p q:Pos}{cs:List Value},t.apart=true->Mv own w own' w' t p q->Rep own w t x p cs->Rep own' w' t x q cs
 |.int _,_,_,_,_,_,_,h=>h
 |.bool,_,_,_,_,_,_,h=>h
 |.str,_,_,_,_,_,_,h=>h
 |.unit,_,_,_,_,_,_,h=>h
 |.nilp,_,_,_,_,_,_,h=>h
 |.fo,_,_,_,_,ha,_,_=>by cases ha
 |.hdr,_,_,_,_,_,_,h=>h
 |.hole _,_,_,_,_,ha,_,_=>by cases ha
 |.slc _,_,_,_,_,ha,_,_=>by cases ha
 |.sptr _,_,_,_,_,ha,_,_=>by cases ha
 | .pair a b,_,p,q,_,ha,hm,h=>by
   simp only[Rep]at h⊢;simp only[Ty.apart,Bool.and_eq_true]at ha;obtain⟨c1,c2,rfl,h1,h2⟩:=h;exact⟨c1,c2,rfl,Rep.moveAp ha.1 hm.1 h1,Rep.moveAp ha.2 hm.2 h2⟩
 | .own tid e,_,p,q,_,ha,hm,h=>by
   simp only[Rep]at h⊢;rcases h with h|⟨g,cap,cur,rfl,ho,hg,hc,hl,hsz,he⟩
   . exact .inl h
   . exact .inr ⟨g,cap,cur,rfl,(hm.1 g ho).1,(hm.1 g ho).2.trans hg,hc,hl,hsz,fun i y hy=>Rep.moveAp (t:=e) ha (hm.2 i) (he i y hy)⟩
 | .bx t,_,p,q,_,ha,hm,h=>by
   simp only[Rep]at h⊢;obtain⟨g,cur,T,rfl,ho,hg,h1⟩:=h;exact⟨g,cur,T,rfl,(hm.1 g ho).1,(hm.1 g ho).2.trans hg,Rep.moveAp (t:=t) ha hm.2 h1⟩
 | .arr n e,_,p,q,_,ha,hm,h=>by
   simp only[Rep]at h⊢;obtain⟨h0,h1,h2,h3,h4⟩:=h;exact⟨h0,h1,h2,h3,fun i y hy=>Rep.moveAp (t:=e) ha (Mv.of_plain h0) (h4 i y hy)⟩
 | .clo f a,_,p,q,_,ha,hm,h=>by
   simp only[Rep]at h⊢;obtain⟨h0,vs,rfl,h1⟩:=h;exact⟨h0,vs,rfl,Rep.moveAp (t:=a) ha (Mv.of_plain h0) h1⟩
 | .mp _ k v,_,p,q,_,ha,hm,h=>by
   simp only[Rep]at h⊢;simp only[Ty.apart,Bool.and_eq_true]at ha;obtain⟨hk,hv,h|⟨g,en,clock,l,rfl,rfl,ho,hg,hl,he⟩⟩:=h
   . exact⟨hk,hv,.inl h⟩
   . refine⟨hk,hv,.inr ⟨g,en,clock,l,rfl,rfl,(hm.1 g ho).1,(hm.1 g ho).2.trans hg,hl,fun i m x h1 h2=>?_⟩⟩;obtain⟨kc,vc,i1,i2,r1,r2⟩:=he i m x h1 h2;exact⟨kc,vc,i1,i2,Rep.moveAp ha.1 (Mv.of_plain (Z12 hk)) r1,Rep.moveAp ha.2 (hm.2 i) r2⟩
where
 Mv.of_plain {own own':Own} {w w':World}:∀{t:Ty}{p q:Pos},t.plain=true->Mv own w own' w' t p q
   |.int _,_,_,_=>trivial
   |.bool,_,_,_=>trivial
   |.str,_,_,_=>trivial
   |.unit,_,_,_=>trivial
   |.slc _,_,_,_=>trivial
   |.sptr _,_,_,_=>trivial
   |.arr _ _,_,_,_=>trivial
   |.nilp,_,_,_=>trivial
   |.fo,_,_,_=>trivial
   |.hdr,_,_,_=>trivial
   |.clo _ _,_,_,_=>trivial
   | .pair a b,p,q,h=>by
     simp only[Ty.plain,Bool.and_eq_true]at h;exact⟨Mv.of_plain h.1,Mv.of_plain h.2⟩
   |.hole _,_,_,h=>by cases h
   |.own _ _,_,_,h=>by cases h
   |.bx _,_,_,h=>by cases h
   |.mp _ _ _,_,_,h=>by cases h
def Zhp(own:Own)(w:World):PM->(t:Ty)->t.den->Nat->Value->Prop
 |.lend,t,x,j,v=>∃g cur T,v=.pointer (some ⟨g,0,none⟩)/\own g=.ob [j] []/\w.heap[g]?=some (.cells cur T (0,0))/\Rep own w t x ⟨[j,3],[],true⟩ cur.toList
 |.lendv,t,x,j,v=>∃cs,IsVal t.agg cs v/\Rep own w t x ⟨[j],[],true⟩ cs
 | _,_,_,_,_=>True
def LendsR(own:Own)(w:World):(ps:List (PM×Ty))->(chain (Zo ps)).den->Nat->List Value->Prop
 |[],_,_,_=>True
 |(.lend,t)::ps,l,j,vs=>∃v vs',vs=v::vs'/\Zhp own w .lend t l.1 j v/\LendsR own w ps l.2 (j+1) vs'
 |(.lendv,t)::ps,l,j,vs=>∃v vs',vs=v::vs'/\Zhp own w .lendv t l.1 j v/\LendsR own w ps l.2 (j+1) vs'
 |(.val,_)::ps,l,j,vs=>LendsR own w ps l (j+1) vs.tail
 |(.mov,_)::ps,l,j,vs=>LendsR own w ps l (j+1) vs.tail
def ResR(own:Own)(w:World):(rs:List Ty)->(chain rs).den->Nat->List Value->Prop
 |[],_,_,us=>us=[]
 |t::rs,l,k,us=>∃u us',us=u::us'/\(∃cs,IsVal t.agg cs u/\Rep own w t l.1 ⟨[k],[],true⟩ cs)/\ResR own w rs l.2 (k+1) us'
def retV:List Value->Value
 |[v]=>v
 |vs=>.tuple vs.toArray
def AV.tr:AV->List Nat->List Nat->Option Lb
 |.ref o,[],q=>some (.ob o q)
 |.pr a _,0::ix,q=>AV.tr a ix q
 |.pr _ b,1::ix,q=>AV.tr b ix q
 | _,_,_=>none
def trA(O:Obs):List (PM×Ty)->List (Bool×AV)->Nat->Nat->List Nat->List Nat->Option Lb
 |(.lend,_)::ps,(_,.p b _ _)::as,j,k,p,s=>if k=j then(match p with
     |[]=>some (.ob b s)
     |3::p'=>(Z77 O b [9,10,11]).map fun r=>.ob (r++p') s
     | _=>none)else trA O ps as (j+1) k p s
 |(.lend,_)::ps,(_,.s b i _)::as,j,k,p,s=>if k=j then(match p with
     |[]=>some (.ob b (i::s))
     |3::p'=>some (.ob b (i::2::(p'++s)))
     | _=>none)else trA O ps as (j+1) k p s
 |(.lendv,_)::ps,(_,.s b i q)::as,j,k,p,s=>if k=j then(match p with
     |[]=>some (.ob b (i::pn q.way++s))
     | _=>none)else trA O ps as (j+1) k p s
 |(.lendv,_)::ps,(_,a)::as,j,k,p,s=>if k=j then a.tr p s else trA O ps as (j+1) k p s
 | _::ps,_::as,j,k,p,s=>trA O ps as (j+1) k p s
 | _,_,_,_,_,_=>none
def Zcu(d:Nat)(n k:Nat):Id:=if n=1 then[d]else[d,k]
def trL(O:Obs)(ps:List (PM×Ty))(as:List (Bool×AV))(d n:Nat):Lb->Lb
 | .ob (k::p) s=>if ps.length<=k then .ob (Zcu d n (k-ps.length+1)++p) s else match trA O ps as 0 k p s with
   |some m=>m
   |none=>.out
 |.ob [] _=>.out
 |l=>l
def Zg(own:Own)(O:Obs)(ps:List (PM×Ty))(as:List (Bool×AV))(b:Bool):Own:=fun g=>match own g with
 | .ob o s=>(match relA O ps as 0 o s with
   |some m=>m
   |none=>(match b with|true=>.sh|false=>.out))
 |l=>l
def Zj(own:Own)(w:World)(own':Own)(O:Obs)(ps:List (PM×Ty))(as:List (Bool×AV))(d n:Nat):Own:=fun g=>match own g with
 | .ob o s=>(match relA O ps as 0 o s with
   |some _=>trL O ps as d n (own' g)
   |none=>.ob o s)
 |.sh=>.sh
 |.out=>if g<w.heap.size then .out else trL O ps as d n (own' g)
section back
variable {O:Obs}{ps:List (PM×Ty)}{as:List (Bool×AV)}{d n:Nat}{b:Bool}
theorem Z51:Sealed own w (Zg own O ps as b) w:=fun g hg=>⟨by simp only[Zg,hg],rfl⟩
theorem Z2d(hb:∀g,w.heap.size<=g->own g=.out)(hk:Keeps (Zg own O ps as b) own' w w'){g:Nat}{id:Id}{s:List Nat}(h:own' g=.ob id s):Zj own w own' O ps as d n g=trL O ps as d n (.ob id s):=by
 unfold Zj;cases ho:own g with
 | sh=>
   have:=(hk.sealed g (by simp only[Zg,ho])).1;rw[h]at this;cases this
 | out=>
   simp only;split
   . rename_i hlt;have:=(hk.outs g hlt (by simp only[Zg,ho])).1;rw[h]at this;cases this
   . rw[h]
 | ob o s'=>
   have hlt:g<w.heap.size:=by
     rcases Nat.lt_or_ge g w.heap.size with h|h
     . exact h
     . rw[hb g h]at ho;cases ho
   simp only;cases hr:relA O ps as 0 o s' with
   |some m=>simp only;rw[h]
   | none=>
     simp only;cases b with
     | true=>
       have:=(hk.sealed g (by simp only[Zg,ho,hr])).1;rw[h]at this;cases this
     | false=>
       have:=(hk.outs g hlt (by simp only[Zg,ho,hr])).1;rw[h]at this;cases this
theorem Zdz(hb:∀g,w.heap.size<=g->own g=.out)(hk:Keeps (Zg own O ps as false) own' w w'){g:Nat}(h:own' g=.sh):Zj own w own' O ps as d n g=.sh:=by
 unfold Zj;cases ho:own g with
 |sh=>rfl
 | out=>
   simp only;split
   . rename_i hlt;have:=(hk.outs g hlt (by simp only[Zg,ho])).1;rw[h]at this;cases this
   . rw[h];rfl
 | ob o s'=>
   have hlt:g<w.heap.size:=by
     rcases Nat.lt_or_ge g w.heap.size with h|h
     . exact h
     . rw[hb g h]at ho;cases ho
   simp only;cases hr:relA O ps as 0 o s' with
   |some m=>simp only;rw[h];rfl
   | none=>
     simp only;have:=(hk.outs g hlt (by simp only[Zg,ho,hr])).1;rw[h]at this;cases this
theorem Z1o(hb:∀g,w.heap.size<=g->own g=.out)(hk:Keeps (Zg own O ps as b) own' w w'){g:Nat}{o:Id}{s:List Nat}(ho:own g=.ob o s)(hr:relA O ps as 0 o s=none):Zj own w own' O ps as d n g=.ob o s/\w'.heap[g]?=w.heap[g]?:=by
 have hlt:g<w.heap.size:=by
   rcases Nat.lt_or_ge g w.heap.size with h|h
   . exact h
   . rw[hb g h]at ho;cases ho
 refine⟨by simp only[Zj,ho,hr],?_⟩;cases b with
 |true=>exact(hk.sealed g (by simp only[Zg,ho,hr])).2
 |false=>exact(hk.outs g hlt (by simp only[Zg,ho,hr])).2
theorem Zbs {P:Id->Prop}{O1:Obs}(hM:Mem own w G O P)(hk:Keeps (Zg own O ps as b) own' w w')(hb':∀g,w'.heap.size<=g->own' g=.out)(hsub:∀o bb,look O1 o=some bb->look O o=some bb)
   (hrel:∀o s m,relA O ps as 0 o s=some m->has O o=true/\has O1 o=false):Post own (Zj own w own' O ps as d n) w w' G G O O1 true:=by
 refine Post.rest hM hsub (fun g hg=>⟨by simp only[Zj,hg],(hk.sealed g (by simp only[Zg,hg])).2⟩) (fun g o s hg ho=>?_) (fun g hlt hg=>⟨by simp only[Zj,hg,if_pos hlt],(hk.outs g hlt (by simp only[Zg,hg])).2⟩) (fun g hg=>?_) hk.size hk.os hk.tape hk.output
 . cases hr:relA O ps as 0 o s with
   |some m=>rw[(hrel o s m hr).2]at ho;cases ho
   |none=>exact Z1o hM.bound hk hg hr
 . have hge:=Nat.le_trans hk.size hg;simp only[Zj,hM.bound g hge,if_neg (Nat.not_lt.2 hge),hb' g hg];rfl
theorem Z8h(hb:∀g,w.heap.size<=g->own g=.out)(hk:Keeps (Zg own O ps as b) own' w w'){t:Ty}{x:t.den}{p q:Pos}{cs:List Value}(hap:b=true->t.apart=true)(hm:Mv own' w' (Zj own w own' O ps as d n) w' t p q)(h:Rep own' w' t x p cs):
   Rep (Zj own w own' O ps as d n) w' t x q cs:=by
 cases b with
 |true=>exact Rep.moveAp (hap rfl) hm h
 |false=>exact Rep.move (fun g hg=>⟨Zdz hb hk hg,rfl⟩) hm h
theorem Zcv(hb:∀g,w.heap.size<=g->own g=.out)(hk:Keeps (Zg own O ps as b) own' w w'){t:Ty}{x:t.den}{id id':Id}{cs:List Value}(hap:b=true->t.apart=true)(hid:∀p s,trL O ps as d n (.ob (id++p) s)=.ob (id'++p) s)(h:Rep own' w' t x ⟨id,[],true⟩ cs):
   Rep (Zj own w own' O ps as d n) w' t x ⟨id',[],true⟩ cs:=by
 have hm:Mv own' w' (Zj own w own' O ps as d n) w' t ⟨id,[],true⟩ ⟨id',[],true⟩:=Mv.root fun g p s hg=>⟨by rw[Z2d hb hk hg,hid],rfl⟩
 exact Z8h hb hk hap hm h
end back
theorem Z87 {O:Obs}{o r:Id}:∀{l:List Nat},Z77 O o l=some r->∃j,r=o++[j]/\o≠[]/\hasP O r=false
 |[],h=>by cases h
 | j ::l,h=>by
   simp only[Z77]at h;rcases Z8 h with⟨_,h⟩|⟨hp,h⟩
   . exact Z87 h
   . cases o with
     |nil=>cases h
     |cons k q=>cases h;exact⟨j,rfl,by simp,hp⟩
def SubO(O1 O:Obs):Prop:=∀o b,look O1 o=some b->look O o=some b
theorem SubO.has {O1 O:Obs}(h:SubO O1 O){o:Id}(ho:has O1 o=true):has O o=true:=by
 obtain⟨b,hb⟩:=has_look.1 ho;exact Z1 (h o b hb)
theorem SubO.refl(O:Obs):SubO O O:=fun _ _ h=>h
theorem SubO.trans {O1 O2 O3:Obs}(h1:SubO O1 O2)(h2:SubO O2 O3):SubO O1 O3:=fun o b h=>h2 o b (h1 o b h)
theorem SubO.drop(O:Obs)(i:Id):SubO (Z16 O i) O:=by
 intro o b h;rw[Za]at h;split at h
 . cases h
 . exact h
def LeafT(O:Obs):AV->Ty->Prop
 |.v t _,u=>u=t
 |.hole n,u=>u=.hole n
 |.pr a b,u=>∃v z,u=.pair v z/\LeafT O a v/\LeafT O b z
 |.ref o,u=>(∃tid e xs,u=.own tid e/\look O o=some (.list tid e xs))\/∃tid k v es,u=.mp tid k v/\look O o=some (.map tid k v es)
 | _,_=>False
theorem LeafT.sub {O O1:Obs}(h:SubO O1 O):∀{a:AV}{t:Ty},LeafT O1 a t->LeafT O a t
 |.v _ _,_,h1=>h1
 |.hole _,_,h1=>h1
 | .pr a b,_,h1=>by
   obtain⟨v,z,rfl,h2,h3⟩:=h1;exact⟨v,z,rfl,h2.sub h,h3.sub h⟩
 | .ref o,_,h1=>by
   rcases h1 with⟨tid,e,xs,rfl,hl⟩|⟨tid,k,v,es,rfl,hl⟩
   . exact .inl ⟨tid,e,xs,rfl,h _ _ hl⟩
   . exact .inr ⟨tid,k,v,es,rfl,h _ _ hl⟩
theorem LeafT.size {O:Obs}:∀{a:AV}{t:Ty}(_:LeafT O a t),a.size=t.size
 |.v t' _,t,h1=>congrArg Ty.size (show t=t' from h1).symm
 |.hole n,t,h1=>congrArg Ty.size (show t=.hole n from h1).symm
 | .pr a b,_,h1=>by
   obtain⟨v,z,rfl,h2,h3⟩:=h1;show a.size+b.size=v.size+z.size
   rw[h2.size,h3.size]
 | .ref o,_,h1=>by
   rcases h1 with⟨tid,e,xs,rfl,hl⟩|⟨tid,k,v,es,rfl,hl⟩<;>rfl
theorem Z5n:∀{a:AV}{O:Obs}{K:(t:Ty)->t.den->Obs->Option ρ}{r:ρ},pkK a O K=some r->
   ∃u y O1,K u y O1=some r/\LeafT O a u/\SubO O1 O/\(∀o,a.rf o->has O o=true/\has O1 o=false)/\∀{σ:Type}(K':(t:Ty)->t.den->Obs->Option σ),pkK a O K'=K' u y O1
 |.v t x,O,K,r,h=>⟨_,_,_,h,rfl,.refl _,fun o e=>e.elim,fun _=>rfl⟩
 |.hole n,O,K,r,h=>⟨_,_,_,h,rfl,.refl _,fun o e=>e.elim,fun _=>rfl⟩
 | .pr a b,O,K,r,h=>by
   simp only[pkK]at h⊢;obtain⟨u,y,O1,h,l1,s1,r1,e1⟩:=Z5n h;obtain⟨v,z,O2,h,l2,s2,r2,e2⟩:=Z5n h;refine⟨_,_,_,h,⟨_,_,rfl,l1,l2.sub s1⟩,s2.trans s1,?_,fun K'=>by rw[e1,e2]⟩;rintro o (ho|ho)
   . refine⟨(r1 o ho).1,?_⟩;cases e:has O2 o
     . rfl
     . have:=s2.has e;rw[(r1 o ho).2]at this;cases this
   . exact⟨s1.has (r2 o ho).1,(r2 o ho).2⟩
 | .ref o',O,K,r,h=>by
   simp only[pkK]at h⊢;have hd:has (Z16 O o') o'=false:=by
     cases e:has (Z16 O o') o'
     . rfl
     . obtain⟨b,hb⟩:=has_look.1 e;rw[Za,if_pos rfl]at hb;cases hb
   split at h
   . rename_i tid e xs hl;rw[Z4]at h;exact⟨_,_,_,h,.inl ⟨_,_,_,rfl,hl⟩,.drop _ _,by rintro o rfl;exact⟨Z1 hl,hd⟩,fun K'=>by rw[Z4]⟩
   . rename_i tid k v es hl;rw[Z4]at h;exact⟨_,_,_,h,.inr ⟨_,_,_,_,rfl,hl⟩,.drop _ _,by rintro o rfl;exact⟨Z1 hl,hd⟩,fun K'=>by rw[Z4]⟩
   . cases h
 |.dead,_,_,_,h=>by simp only[pkK]at h;cases h
 |.tn,_,_,_,h=>by simp only[pkK]at h;cases h
 |.tp _ _,_,_,_,h=>by simp only[pkK]at h;cases h
 |.hs _ _ _,_,_,_,h=>by simp only[pkK]at h;cases h
 |.p _ _ _,_,_,_,h=>by simp only[pkK]at h;cases h
 |.e _ _ _ _,_,_,_,h=>by simp only[pkK]at h;cases h
 |.s _ _ _,_,_,_,h=>by simp only[pkK]at h;cases h
 |.ap _ _,_,_,_,h=>by simp only[pkK]at h;cases h
 |.cl _ _,_,_,_,h=>by simp only[pkK]at h;cases h
def ArgC:List (PM×Ty)->List (Bool×AV)->Obs->Obs->Prop
 |[],[],O,O'=>O'=O
 |(.val,_)::ps,_::as,O,O'=>ArgC ps as O O'
 |(.mov,_)::ps,(nil,a)::as,O,O'=>∃O1,SubO O1 O/\(nil=false->∀o,a.rf o->has O o=true/\has O1 o=false)/\ArgC ps as O1 O'
 |(.lend,t)::ps,(nil,a)::as,O,O'=>nil=false/\((∃o c O1,a=.p o [] 0/\look O o=some (.box c)/\SubO O1 O/\has O1 o=false/\(∀x,c.rf x->has O x=true/\has O1 x=false)/\ArgC ps as O1 O')\/
     ∃o i tid k es O1,a=.s o i (.bx [] 0)/\look O o=some (.map tid k (.bx t) es)/\SubO O1 O/\has O1 o=false/\ArgC ps as O1 O')
 |(.lendv,t)::ps,(nil,a)::as,O,O'=>nil=false/\∃O1,SubO O1 O/\((∃o i fp n tid0 tid e e2 xs,a=.s o i (.hd fp n)/\t=.own tid e2/\look O o=some (.list tid0 e xs)/\offT e fp=n/\subT e fp=some (.own tid e2)/\has O1 o=false)\/
     (LeafT O a t/\(∀o,a.rf o->has O o=true/\has O1 o=false)))/\ArgC ps as O1 O'
 | _,_,_,_=>False
theorem Z1c(O:Obs)(i:Id):has (Z16 O i) i=false:=by
 cases e:has (Z16 O i) i
 . rfl
 . obtain⟨b,hb⟩:=has_look.1 e;rw[Za,if_pos rfl]at hb;cases hb
end Go.Pv
namespace Go.Pv
open Go Go.Great
variable {own own' own1 own2:Own}{w w' w1 w2:World}{G G' G1 G2:Gs}{ρ:Type}{E:Env}[Base]
theorem Zhz {O:Obs}{o:Id}(h:look O o=none):has O o=false:=by
 cases e:has O o
 . rfl
 . obtain⟨b,hb⟩:=has_look.1 e;rw[h]at hb;cases hb
theorem SubO.no {O1 O:Obs}(h:SubO O1 O){o:Id}(ho:Pv.has O o=false):Pv.has O1 o=false:=by
 cases e:Pv.has O1 o
 . rfl
 . rw[h.has e]at ho;cases ho
theorem Z2o:∀{ps:List (PM×Ty)}{as:List (Bool×AV)}{O:Obs}{K:(chain (Z23 ps)).den->Obs->Bool->Option ρ}{r:ρ},Zc ps as O K=some r->
   ∃l O' b,K l O' b=some r/\ArgC ps as O O'/\SubO O' O/\∀{σ:Type}(K':(chain (Z23 ps)).den->Obs->Bool->Option σ),Zc ps as O K'=K' l O' b
 |[],[],O,K,r,h=>⟨_,_,_,h,rfl,.refl _,fun _=>rfl⟩
 | (.val,t)::ps,(nil,a)::as,O,K,r,h=>by
   simp only[Zc]at h⊢;obtain⟨l,O',b,h,hc,hs,he⟩:=Z2o h;obtain⟨hp,h⟩:=Z0 h;rcases Z8 h with⟨hnil,h⟩|⟨hnil,h⟩
   . cases t with
     |slc e=>exact⟨_,_,_,h,hc,hs,fun K'=>by rw[he,hp,hnil];rfl⟩
     | _=>cases h
   . obtain⟨u,y,c,h,hag,hcel,hev⟩:=Z7i h;obtain⟨hue,h⟩:=Z3 h;subst hue;exact⟨_,_,_,h,hc,hs,fun K'=>by rw[he,hp,hnil];simp only[nif];rw[hev,Z18];rfl⟩
 | (.mov,t)::ps,(true,a)::as,O,K,r,h=>by
   simp only[Zc,nif]at h⊢;cases t with
   | own tid e=>
     obtain⟨l,O',b,h,hc,hs,he⟩:=Z2o h;exact⟨_,_,_,h,⟨O,.refl _,fun e=>(nomatch e),hc⟩,hs,fun K'=>he _⟩
   | _=>cases h
 | (.mov,t)::ps,(false,a)::as,O,K,r,h=>by
   simp only[Zc,nif]at h⊢;obtain⟨u,y,O1,h,hl,hs1,hr1,hev⟩:=Z5n h;obtain⟨hue,h⟩:=Z3 h;subst hue;obtain⟨l,O',b,h,hc,hs,he⟩:=Z2o h;exact⟨_,_,_,h,⟨O1,hs1,fun _=>hr1,hc⟩,hs.trans hs1,fun K'=>by rw[hev,Z18];exact he _⟩
 |(.lend,t)::ps,(true,a)::as,O,K,r,h=>by simp only[Zc]at h;cases h
 |(.lendv,t)::ps,(true,a)::as,O,K,r,h=>by simp only[Zc]at h;cases h
 | (.lend,t)::ps,(false,a)::as,O,K,r,h=>by
   simp only[Zc]at h;split at h
   . rename_i bx;split at h
     . rename_i c hl;have hA:∀{σ:Type}(K':(chain (Z23 ((.lend,t)::ps))).den->Obs->Bool->Option σ),Zc ((.lend,t)::ps) ((false,.p bx [] 0)::as) O K'=pkK c O fun u y O1=>Ze u t y fun x=>Z1a O1 bx fun O2=>Zc ps as O2 fun l O' b=>K' (x,l) O' b:=by
         intro σ K';simp only[Zc,hl]
       obtain⟨u,y,O1,h,_,hs1,hr1,hev⟩:=Z5n h;obtain⟨hue,h⟩:=Z3 h;subst hue;rw[Z4]at h;obtain⟨l,O',b,h,hc,hs,he⟩:=Z2o h;refine⟨_,_,_,h,⟨rfl,.inl ⟨bx,c,Z16 O1 bx,rfl,hl,(SubO.drop _ _).trans hs1,Z1c _ _,fun x hx=>⟨(hr1 x hx).1,(SubO.drop _ _).no (hr1 x hx).2⟩,hc⟩⟩,hs.trans ((SubO.drop _ _).trans hs1),fun K'=>?_⟩;rw[hA,hev,Z18,Z4];exact he _
     . cases h
   . rename_i bx i;split at h
     . rename_i tid k u es hl;have hA:∀{σ:Type}(K':(chain (Z23 ((.lend,t)::ps))).den->Obs->Bool->Option σ),Zc ((.lend,t)::ps) ((false,.s bx i (.bx [] 0))::as) O K'=(lget (es.getD []) i).bind fun e=>Ze u t e.2 fun x=>Z1a O bx fun O1=>Zc ps as O1 fun l O' b=>K' (x,l) O' b:=by
         intro σ K';simp only[Zc,hl]
       obtain⟨e,hx,h⟩:=bind_some h;obtain⟨hue,h⟩:=Z3 h;subst hue;rw[Z4]at h;obtain⟨l,O',b,h,hc,hs,he⟩:=Z2o h;refine⟨_,_,_,h,⟨rfl,.inr ⟨bx,i,tid,k,es,Z16 O bx,rfl,hl,.drop _ _,Z1c _ _,hc⟩⟩,hs.trans (.drop _ _),fun K'=>?_⟩;rw[hA,hx,Option.bind_some,Z18,Z4];exact he _
     . cases h
   . cases h
 | (.lendv,t)::ps,(false,a)::as,O,K,r,h=>by
   by_cases hS:∃bx i fp n,a=.s bx i (.hd fp n)
   . obtain⟨bx,i,fp,n,rfl⟩:=hS;simp only[Zc]at h⊢;split at h
     . rename_i tid0 e xs hl;obtain⟨hof,h⟩:=Z0 h;obtain⟨y,hy,h⟩:=bind_some h;obtain⟨tid,e2,ys,h,hsub,hev,_⟩:=Z1t h;obtain⟨hue,h⟩:=Z3 h;subst hue;rw[Z4]at h;obtain⟨l,O',b,h,hc,hs,he⟩:=Z2o h;refine⟨_,_,_,h,⟨rfl,Z16 O bx,.drop _ _,.inl ⟨bx,i,fp,n,tid0,tid,e,e2,xs,rfl,rfl,hl,Z2 hof,hsub,Z1c _ _⟩,hc⟩,hs.trans (.drop _ _),fun K'=>?_⟩;simp only[hof,nif,hy,Option.bind_some,hev];rw[Z18,Z4];exact he _
     . cases h
   . have hA:∀{σ:Type}(K':(chain (Z23 ((.lendv,t)::ps))).den->Obs->Bool->Option σ),Zc ((.lendv,t)::ps) ((false,a)::as) O K'=pkK a O fun u y O1=>Ze u t y fun x=>Zc ps as O1 fun l O' b=>K' (x,l) O' b:=by
       intro σ K';cases a<;>first|rfl|(rename_i k;cases k<;>first|rfl|exact(hS ⟨_,_,_,_,rfl⟩).elim)
     rw[hA]at h;obtain⟨u,y,O1,h,hl,hs1,hr1,hev⟩:=Z5n h;obtain⟨hue,h⟩:=Z3 h;subst hue;obtain⟨l,O',b,h,hc,hs,he⟩:=Z2o h;exact⟨_,_,_,h,⟨rfl,O1,hs1,.inr ⟨hl,hr1⟩,hc⟩,hs.trans hs1,fun K'=>by rw[hA,hev,Z18];exact he _⟩
 |[],_::_,_,_,_,h=>by simp only[Zc]at h;cases h
 | _::_,[],_,_,_,h=>by simp only[Zc]at h;cases h
theorem Z29 {O0:Obs}:∀{ps:List (PM×Ty)}{as:List (Bool×AV)}{O O':Obs}{j:Nat},ArgC ps as O O'->SubO O O0->∀o s m,relA O0 ps as j o s=some m->has O o=true
 |[],[],O,O',j,_,_,o,s,m,h=>by simp[relA]at h
 |(.val,t)::ps,(nil,a)::as,O,O',j,hc,hs,o,s,m,h=>Z29 (ps:=ps) (as:=as) (j:=j+1) hc hs o s m h
 | (.mov,t)::ps,(true,a)::as,O,O',j,hc,hs,o,s,m,h=>by
   obtain⟨O1,s1,_,hc⟩:=hc;exact s1.has (Z29 (j:=j+1) hc (s1.trans hs) o s m h)
 | (.mov,t)::ps,(false,a)::as,O,O',j,hc,hs,o,s,m,h=>by
   obtain⟨O1,s1,hr,hc⟩:=hc;simp only[relA]at h;split at h
   . rename_i hrl;exact(hr rfl o (AV.rel_rf hrl)).1
   . exact s1.has (Z29 (j:=j+1) hc (s1.trans hs) o s m h)
 | (.lend,t)::ps,(nil,a)::as,O,O',j,hc,hs,o,s,m,h=>by
   obtain⟨_,⟨bx,c,O1,rfl,hl,s1,h0,hr,hc⟩|⟨bx,i,tid,k,es,O1,rfl,hl,s1,h0,hc⟩⟩:=hc
   . simp only[relA]at h;split at h
     . rename_i e;rw[e.1];exact Z1 hl
     . rw[hs _ _ hl]at h;dsimp only at h;split at h
       . rename_i hrl;exact(hr o (AV.rel_rf hrl)).1
       . exact s1.has (Z29 (j:=j+1) hc (s1.trans hs) o s m h)
   . simp only[relA,hs _ _ hl]at h;split at h
     . rename_i hrl;split at hrl
       . rename_i e;rw[e];exact Z1 hl
       . cases hrl
     . exact s1.has (Z29 (j:=j+1) hc (s1.trans hs) o s m h)
 | (.lendv,t)::ps,(nil,a)::as,O,O',j,hc,hs,o,s,m,h=>by
   obtain⟨_,O1,s1,hx,hc⟩:=hc;rcases hx with⟨bx,i,fp,n,tid0,tid,e,e2,xs,rfl,rfl,hl,_,_,h0⟩|⟨hl,hr⟩
   . simp only[relA]at h;split at h
     . rename_i hrl;split at hrl
       . rename_i e;rw[e];exact Z1 hl
       . cases hrl
     . exact s1.has (Z29 (j:=j+1) hc (s1.trans hs) o _ m h)
   . have hA:relA O0 ((.lendv,t)::ps) ((nil,a)::as) j o s=(match a.rel ⟨[j],[],true⟩ o s with|some m=>some m|none=>relA O0 ps as (j+1) o s):=by
       cases a<;>first|rfl|exact hl.elim
     rw[hA]at h;split at h
     . rename_i hrl;exact(hr o (AV.rel_rf hrl)).1
     . exact s1.has (Z29 (j:=j+1) hc (s1.trans hs) o s m h)
 |[],_::_,_,_,_,hc,_,_,_,_,_=>hc.elim
 | _::_,[],_,_,_,hc,_,_,_,_,_=>by simp only[ArgC]at hc
structure BackI (own:Own) (w:World) (own2:Own) (w':World) (G:Gs) (O:Obs) (Gb:Gs) (Ob:Obs):Prop where
 post:Post own own2 w w' G Gb O Ob true
 keep:∀o,has O o=true->Gb o=G o
 fresh:∀d,(∀o,pre [d] o=true->has O o=false)->∀o,pre [d] o=true->has Ob o=false
theorem BackI.add {O Oc:Obs}{Gb:Gs}{o:Id}{bb:Ob}(h:BackI own w own2 w' G O Gb Oc)(ho:has O o=true)(hb:ObR own2 w' Gb o bb)(hm:∀c,bb=.box c->c.men fun i=>has Oc i=true):BackI own w own2 w' G O Gb ((o,bb)::Oc) where
 post:={
   objs:=fun x c hc=>by
     rw[Z9]at hc;split at hc
     . rename_i e;subst e;cases hc;exact hb
     . exact h.post.objs x c hc
   stay:=fun e=>(nomatch e)
   same:=fun x hx _=>h.keep x hx
   nest:=fun e=>(nomatch e)
   box:=fun P hP x c hc=>by
     rw[Z9]at hc;split at hc
     . cases hc;exact(hm c rfl).mono fun i hi=>.inr ((Zp _ _ _ _).2 (.inr hi))
     . exact(h.post.box P hP x c hc).mono fun i hi=>hi.imp id fun hi=>(Zp _ _ _ _).2 (.inr hi)
   sealed:=h.post.sealed
   outs:=h.post.outs
   bound:=h.post.bound
   size:=h.post.size
   os:=h.post.os
   tape:=h.post.tape
   output:=h.post.output}
 keep:=h.keep
 fresh:=fun d hd x hx=>by
   cases e:has ((o,bb)::Oc) x
   . rfl
   . rcases(Zp _ _ _ _).1 e with rfl|e
     . rw[hd _ hx]at ho;cases ho
     . rw[h.fresh d hd x hx]at e;cases e
theorem Zcw {α β:Type}:∀(l:List (α×β))(i:Nat)(y:β),(mset l i y).length=l.length
 |[],_,_=>rfl
 | _::_,0,_=>rfl
 | _::l,i+1,y=>by simp[mset,Zcw l i y]
theorem Zeq {α β:Type}:∀{l:List (α×β)}{i q:Nat}{y:β},q≠i->(mset l i y)[q]?=l[q]?
 |[],_,_,_,_=>rfl
 | _::_,0,0,_,h=>(h rfl).elim
 | _::_,0,q+1,_,_=>rfl
 | _::_,i+1,0,_,_=>rfl
 | _::l,i+1,q+1,y,h=>by simp only[mset,List.getElem?_cons_succ];exact Zeq fun e=>h (by rw[e])
theorem Zer {α β:Type}:∀{l:List (α×β)}{i:Nat}{y:β}{x:α×β},(mset l i y)[i]?=some x->∃x0,l[i]?=some x0/\x=(x0.1,y)
 |[],_,_,_,h=>by simp[mset]at h
 |e::_,0,y,x,h=>by simp only[mset,List.getElem?_cons_zero,Option.some.injEq]at h;exact⟨e,rfl,h.symm⟩
 | _::l,i+1,y,x,h=>by simp only[mset,List.getElem?_cons_succ]at h⊢;exact Zer h
theorem Mv.obLow {tid:Nat}{e:Ty}{id o:Id}{s0:List Nat}(h:∀g s,own g=.ob id s->own' g=.ob o (s0++s)/\w'.heap[g]?=w.heap[g]?):Mv own w own' w' (.own tid e) ⟨id,[],true⟩ ⟨o,s0,false⟩:=
 ⟨fun g hg=>by
   have:=h g [] (by simpa[Pos.lb]using hg);simpa[Pos.lb]using this,fun i=>Mv.sub (s:=[i]) (s':=s0++[i]) fun g r hg=>by
   have:=h g (i::r) (by simpa using hg);simpa using this⟩
section lent
variable {O0:Obs}{PS:List (PM×Ty)}{AS:List (Bool×AV)}{d n:Nat}{b:Bool}{P:Id->Prop}
theorem Z67(hM:Mem own w G O0 P)(hk:Keeps (Zg own O0 PS AS b) own' w w'):∀{a:AV}{t:Ty}{y:t.den}{j:Nat}{π:List Nat}{cs:List Value}{Ob:Obs}{Gb:Gs}{K:Obs->Option ρ}{r:ρ},LeafT O0 a t->(b=true->t.apart=true)->AVc own w G a cs->
   (∀p s,trL O0 PS AS d n (.ob (j::(π++p)) s)=(match a.tr p s with|some m=>m|none=>.out))->Rep own' w' t y ⟨j::π,[],true⟩ cs->BackI own w (Zj own w own' O0 PS AS d n) w' G O0 Gb Ob->Z24 t y a Ob K=some r->
   ∃Ob',K Ob'=some r/\BackI own w (Zj own w own' O0 PS AS d n) w' G O0 Gb Ob'
 |.v t' x,t,y,j,π,cs,Ob,Gb,K,r,hl,hap,hc,ht,hR,hI,h=>⟨Ob,by cases t<;>exact h,hI⟩
 |.hole n',t,y,j,π,cs,Ob,Gb,K,r,hl,hap,hc,ht,hR,hI,h=>⟨Ob,by cases t<;>exact h,hI⟩
 | .pr a c,t,y,j,π,cs,Ob,Gb,K,r,hl,hap,hc,ht,hR,hI,h=>by
   obtain⟨v,z,rfl,hl1,hl2⟩:=hl;obtain⟨c1,c2,rfl,hc1,hc2⟩:=hc;obtain⟨d1,d2,he,hR1,hR2⟩:=hR;have hlen:c1.length=d1.length:=by rw[hc1.length,hR1.length,hl1.size]
   obtain⟨rfl,rfl⟩:=List.append_inj he hlen;simp only[Z24]at h;have hap':b=true->v.apart=true/\z.apart=true:=fun e=>by
     have:=hap e;simpa[Ty.apart,Bool.and_eq_true]using this
   obtain⟨Ob1,h,hI1⟩:=Z67 (π:=π++[0]) hM hk hl1 (fun e=>(hap' e).1) hc1 (fun p s=>by
     have:=ht (0::p) s;rw[show π++0::p=π++[0]++p by simp]at this;rw[this];simp only[AV.tr]) hR1 hI h
   exact Z67 (π:=π++[1]) hM hk hl2 (fun e=>(hap' e).2) hc2 (fun p s=>by
     have:=ht (1::p) s;rw[show π++1::p=π++[1]++p by simp]at this;rw[this];simp only[AV.tr]) hR2 hI1 h
 | .ref o,t,y,j,π,cs,Ob,Gb,K,r,hl,hap,hc,ht,hR,hI,h=>by
   have hlab:∀g s,own' g=.ob (j::π) s->Zj own w own' O0 PS AS d n g=.ob o s/\w'.heap[g]?=w'.heap[g]?:=fun g s hg=>by
     rw[Z2d hM.bound hk hg];have:=ht [] s;rw[List.append_nil]at this;exact⟨by rw[this];simp only[AV.tr],rfl⟩
   obtain⟨rfl,hone⟩:=hc;rcases hl with⟨tid,e,xs,rfl,hl⟩|⟨tid,k,v,es,rfl,hl⟩
   . simp only[Z24]at h;obtain⟨hn,h⟩:=Zb h;obtain⟨g1,g2,_⟩:=hM.objs o _ hl;have hg:=hI.keep o (Z1 hl);refine⟨_,h,hI.add (Z1 hl) ⟨by rw[hg];exact g1,by rw[hg];exact g2,?_⟩ (fun c e=>(nomatch e))⟩;rw[hg];exact Z8h hM.bound hk hap (Mv.ob fun g s hgs=>hlab g s hgs) hR
   . simp only[Z24]at h;cases h
 |.dead,_,_,_,_,_,_,_,_,_,hl,_,_,_,_,_,_=>hl.elim
 |.tn,_,_,_,_,_,_,_,_,_,hl,_,_,_,_,_,_=>hl.elim
 |.tp _ _,_,_,_,_,_,_,_,_,_,hl,_,_,_,_,_,_=>hl.elim
 |.hs _ _ _,_,_,_,_,_,_,_,_,_,hl,_,_,_,_,_,_=>hl.elim
 |.p _ _ _,_,_,_,_,_,_,_,_,_,hl,_,_,_,_,_,_=>hl.elim
 |.e _ _ _ _,_,_,_,_,_,_,_,_,_,hl,_,_,_,_,_,_=>hl.elim
 |.s _ _ _,_,_,_,_,_,_,_,_,_,hl,_,_,_,_,_,_=>hl.elim
 |.ap _ _,_,_,_,_,_,_,_,_,_,hl,_,_,_,_,_,_=>hl.elim
 |.cl _ _,_,_,_,_,_,_,_,_,_,hl,_,_,_,_,_,_=>hl.elim
theorem LeafT.agg {O:Obs}:∀{a:AV}{t:Ty},LeafT O a t->a.agg=t.agg
 |.v t' _,t,h1=>congrArg Ty.agg (show t=t' from h1).symm
 | .hole n,t,h1=>by
   rw[show t=.hole n from h1];simp only[Ty.agg,AV.agg];cases Nat.beq n 1<;>rfl
 | .pr a b,_,h1=>by
   obtain⟨v,z,rfl,h2,h3⟩:=h1;rfl
 | .ref o,_,h1=>by
   rcases h1 with⟨tid,e,xs,rfl,hl⟩|⟨tid,k,v,es,rfl,hl⟩<;>rfl
theorem LeafT.cel {O:Obs}{a:AV}{t:Ty}(h:LeafT O a t):a.cel=true:=by
 cases a<;>first|rfl|exact h.elim
theorem LeafT.noS {O:Obs}{a:AV}{t:Ty}(h:LeafT O a t):∀o i k,a≠.s o i k:=by
 rintro o i k rfl;exact h.elim
theorem IsVal.inj {g:Bool}{c1 c2:List Value}{v:Value}(h1:IsVal g c1 v)(h2:IsVal g c2 v):c1=c2:=by
 cases g
 . exact(show c1=[v]from h1).trans (show c2=[v]from h2).symm
 . have e1:v=.agg c1.toArray:=h1;have e2:v=.agg c2.toArray:=h2;rw[e1]at e2;simpa using e2
theorem Z52 {O:Obs}{x:PM×Ty}{y:Bool×AV}{ps:List (PM×Ty)}{as:List (Bool×AV)}{j k:Nat}{p s:List Nat}(h:k≠j):trA O (x::ps) (y::as) j k p s=trA O ps as (j+1) k p s:=by
 obtain⟨m,t⟩:=x;obtain⟨nil,a⟩:=y;cases m with
 |val=>simp only[trA]
 |mov=>simp only[trA]
 |lend=>cases a<;>simp only[trA,if_neg h]
 |lendv=>cases a<;>simp only[trA,if_neg h]
theorem Z5o {O:Obs}{ps:List (PM×Ty)}{as:List (Bool×AV)}{k:Nat}{p s:List Nat}(h:k<ps.length):trL O ps as d n (.ob (k::p) s)=(match trA O ps as 0 k p s with|some m=>m|none=>.out):=by
 simp only[trL,if_neg (Nat.not_le.2 h)]<;>cases trA O ps as 0 k p s<;>rfl
theorem Zgu {O:Obs}{t:Ty}{y:Bool×AV}{ps:List (PM×Ty)}{as:List (Bool×AV)}{j:Nat}{o:Id}{s:List Nat}:relA O ((.val,t)::ps) (y::as) j o s=relA O ps as (j+1) o s:=by
 simp only[relA]
theorem Zfg(hM:Mem own w G O0 fun i=>has O0 i=true){t:Ty}{y:t.den}{rt o:Id}{g:Nat}{cur:Array Value}{T:TypeId}{c0:AV}{Oc:Obs}{Gb:Gs}{K:Obs->Option ρ}{r:ρ}(hl:look O0 o=some (.box c0))(hv:(G o).v=.pointer (some ⟨g,0,none⟩))(hg:own2 g=.ob o [])(hw:w'.heap[g]?=some (.cells cur T (0,0)))
   (hR:Rep own2 w' t y ⟨rt,[],true⟩ cur.toList) (hI:BackI own w own2 w' G O0 Gb Oc) (hrt:Z77 O0 o [9,10,11]=some rt) (hno:hasP Oc rt=false) (h:unpK t y rt Oc (fun c1 O1=>newK O1 o (.box c1) K)=some r):
   ∃Oc' Gb',K Oc'=some r/\BackI own w own2 w' G O0 Gb' Oc':=by
 obtain⟨jj,rfl,hne,hno0⟩:=Z87 hrt;have hn0:∀x,pre (o++[jj]) x=true->has O0 x=false:=fun x hx=>by
   cases e:has O0 x
   . rfl
   . rw[Z6g hx e]at hno0;cases hno0
 have hn1:∀x,pre (o++[jj]) x=true->has Oc x=false:=fun x hx=>by
   cases e:has Oc x
   . rfl
   . rw[Z6g hx e]at hno;cases hno
 obtain ⟨c1,O1,G1,h,u⟩:=Z2a (P:=fun i=>has O0 i=true\/has Oc i=true) hR hI.post.objs (hI.post.box _ hM.box) (fun x hx=>by rw[hn0 x hx,hn1 x hx];simp) h;obtain⟨hn,h⟩:=Zb h;have hI1:BackI own w own2 w' G O0 G1 O1:={
   post:={
     objs:=u.objs
     stay:=fun e=>(nomatch e)
     same:=fun x hx _=>by
       have hp:pre (o++[jj]) x=false:=Bool.eq_false_iff.2 fun e=>by rw[hn0 x e]at hx;cases hx
       exact(u.more.same x hp).1.trans (hI.keep x hx)
     nest:=fun e=>(nomatch e)
     box:=fun P hP x c hc=>by
       have hold:∀i,has Oc i=true->has O1 i=true:=fun i hi=>by rw[Zh (u.more.kept i hi)];exact hi
       rcases u.box x c hc with h1|h1
       . exact(hI.post.box P hP x c h1).mono fun i hi=>hi.imp id (hold i)
       . exact h1.mono fun i hi=>.inr hi.1
     sealed:=hI.post.sealed
     outs:=hI.post.outs
     bound:=hI.post.bound
     size:=hI.post.size
     os:=hI.post.os
     tape:=hI.post.tape
     output:=hI.post.output}
   keep:=fun x hx=>by
     have hp:pre (o++[jj]) x=false:=Bool.eq_false_iff.2 fun e=>by rw[hn0 x e]at hx;cases hx
     exact(u.more.same x hp).1.trans (hI.keep x hx)
   fresh :=fun d hd x hx=>by
     cases e:pre (o++[jj]) x
     . rw[Zh (u.more.same x e).2];exact hI.fresh d hd x hx
     . exfalso;have hlo:=Z1 hl;cases o with
       |nil=>exact hne rfl
       | cons k q=>
         obtain⟨c,hc⟩:=pre_iff.1 e;obtain⟨c',hc'⟩:=pre_iff.1 hx;rw[hc]at hc';simp only[List.cons_append,List.nil_append,List.cons.injEq]at hc';rw[hd (k::q) (pre_iff.2 ⟨q,by simp[hc'.1]⟩)]at hlo;cases hlo}
 obtain⟨hn',g0,cur0,T0,hv0,_⟩:=hM.objs o _ hl;have hk:=hI1.keep o (Z1 hl);exact⟨_,_,h,hI1.add (Z1 hl) ⟨⟨by rw[hk];exact hn'.1,u.ok⟩,g,cur,T,by rw[hk];exact hv,hg,hw,u.rep⟩ fun c e=>by cases e;exact u.men.mono fun i hi=>hi.1⟩
theorem Zfh(hM:Mem own w G O0 P)(hk:Keeps (Zg own O0 PS AS b) own' w w'){o:Id}{i tid0 tid j n0:Nat}{fp:List Bool}{e e2:Ty}{xs:List e.den}{x z:e.den}{y ys:List e2.den}{v:Value}{Oc:Obs}{Gb:Gs}{K:Obs->Option ρ}{r:ρ}(hl:look O0 o=some (.list tid0 e xs))(hap:b=true->e2.apart=true)
   (hof:offT e fp=n0) (hx:xs[i]?=some x) (hput:PutT e fp x z (.own tid e2) ys y)
   (hrel:∀s,relA O0 PS AS 0 o s=(strip (i::pn fp) s).map fun q=>.ob [j] q) (htr:∀s,trL O0 PS AS d n (.ob [j] s)=.ob o (i::pn fp++s)) (ha:AVv own w G (.s o i (.hd fp n0)) v)
   (hR:Rep own' w' (.own tid e2) y ⟨[j],[],true⟩ [v]) (hI:BackI own w (Zj own w own' O0 PS AS d n) w' G O0 Gb Oc) (h:newK Oc o (.list tid0 e (xs.set i z)) K=some r):
   ∃Oc',K Oc'=some r/\BackI own w (Zj own w own' O0 PS AS d n) w' G O0 Gb Oc':=by
 obtain⟨hn,h⟩:=Zb h;obtain⟨h1,h2,hr⟩:=hM.objs o _ hl;have hkk:=hI.keep o (Z1 hl);refine⟨_,h,hI.add (Z1 hl) ⟨by rw[hkk];exact h1,by rw[hkk];exact h2,?_⟩ fun c e=>(nomatch e)⟩;rw[hkk];obtain⟨_,A,m0,c0,u,hgv,hi,hu,hcell,_⟩:=ha.one rfl rfl;simp only[List.cons.injEq,and_true]at hcell;subst hcell;rw[hgv]at hr⊢;have hr0:=hr;simp only[Rep,List.cons.injEq,and_true,Value.slice.injEq,Option.some.injEq,reduceCtorEq,false_and,false_or]at hr;obtain⟨g,cap,cur,⟨rfl,rfl,rfl⟩,ho,hg,hc1,hc2,hc3,he⟩:=hr;have hel:Rep own w e x ⟨o,[i],false⟩ _:=he i x hx;obtain⟨c1,c2,c3,hcs,hl1,hc,hfin⟩:=hput.rep hel;obtain⟨u,rfl⟩:∃u,c2=[u]:=by
   have:=hc.length
   match c2,this with
   |[u],_=>exact⟨u,rfl⟩
 have hu2:=Z2b hg (c1:=c1) (u:=u) (c3:=c3) (by rw[hcs];rfl);rw[hl1,hof,<-h1,hu]at hu2;cases hu2;have hnil:∀q,relA O0 PS AS 0 o (i::q)=(strip (pn fp) q).map fun q=>.ob [j] q:=fun q=>by rw[hrel];simp only[strip,if_true]
 have hoth:∀k q,k≠i->relA O0 PS AS 0 o (k::q)=none:=fun k q hki=>by rw[hrel];simp only[strip,if_neg (Ne.symm hki)];rfl
 have h0:=Z1o (d:=d) (n:=n) hM.bound hk ho (by rw[hrel];rfl);refine .inr ⟨g,c0,cur,by simp,h0.1,h0.2.trans hg,by simpa using hc1,hc2,hc3,fun k x' hx'=>?_⟩;by_cases hki:k=i
 . subst hki;rw[List.getElem?_set_self (List.getElem?_eq_some_iff.1 hx).1]at hx';cases hx';rw[hcs];refine hfin (q2:=⟨o,[k],false⟩) (fun t z p' zs hd hz=>?_) [_] ?_
   . rw[Pos.at_low]at hz⊢;refine Rep.move (fun g hg=>hI.post.sealed g hg) (Mv.sub fun g q hgq=>?_) hz;have:=Z1o (d:=d) (n:=n) hM.bound hk (g:=g) (o:=o) (s:=k::(pn p'++q)) (by simpa using hgq) (by
       rw[hnil];cases e:strip (pn fp) (pn p'++q)with
       |none=>rfl
       |some s=>exact(Zgn hd (strip_some.1 e)).elim)
     exact⟨by simpa using this.1,this.2⟩
   . rw[Pos.at_low];refine Z8h hM.bound hk hap (Mv.obLow fun g s hgs=>⟨?_,rfl⟩) hR;rw[Z2d hM.bound hk hgs,htr];rfl
 . rw[List.getElem?_set_ne (fun e=>hki e.symm)]at hx';refine Rep.move (fun g hg=>hI.post.sealed g hg) (Mv.sub fun g q hgq=>?_) (he k x' hx');have:=Z1o (d:=d) (n:=n) hM.bound hk (g:=g) (o:=o) (s:=k::q) (by simpa using hgq) (hoth k q hki);exact⟨by simpa using this.1,this.2⟩
theorem Zgv(hM:Mem own w G O0 P)(hk:Keeps (Zg own O0 PS AS b) own' w w'){o:Id}{i tid j g cc:Nat}{k u:Ty}{es:Option (List (k.den×u.den))}{y:u.den}{cur:Array Value}{T:TypeId}{Oc:Obs}{Gb:Gs}{K:Obs->Option ρ}{r:ρ}(hl:look O0 o=some (.map tid k (.bx u) es))(hap:b=true->u.apart=true)
   (hrel:∀s,relA O0 PS AS 0 o s=Z6s u i j s) (htr:∀s,trL O0 PS AS d n (.ob [j] s)=.ob o (i::s)) (htr3:∀p s,trL O0 PS AS d n (.ob ([j,3]++p) s)=.ob o (i::2::(p++s)))
   (ha:AVv own w G (.s o i (.bx [] cc)) (.pointer (some ⟨g,0,none⟩))) (hcc:cc=0) (hg:own' g=.ob [j] []) (hw:w'.heap[g]?=some (.cells cur T (0,0)))
   (hR:Rep own' w' u y ⟨[j,3],[],true⟩ cur.toList) (hI:BackI own w (Zj own w own' O0 PS AS d n) w' G O0 Gb Oc) (h:newK Oc o (.map tid k (.bx u) (some (mset (es.getD []) i y))) K=some r):
   ∃Oc',K Oc'=some r/\BackI own w (Zj own w own' O0 PS AS d n) w' G O0 Gb Oc':=by
 obtain⟨hn,h⟩:=Zb h;obtain⟨h1,hr⟩:=hM.objs o _ hl;have hkk:=hI.keep o (Z1 hl);refine⟨_,h,hI.add (Z1 hl) ⟨by rw[hkk];exact h1,?_⟩ fun c e=>(nomatch e)⟩;rw[hkk];obtain⟨_,gm,en,clk,mm,g2,hgv,hgm,hmm,hmv,hcell⟩:=ha.one rfl rfl;simp only[List.cons.injEq,and_true,Value.pointer.injEq,Option.some.injEq,Addr.mk.injEq]at hcell;obtain⟨rfl,_⟩:=hcell;rw[hgv]at hr⊢;simp only[Rep,List.cons.injEq,and_true,Value.map.injEq,Option.some.injEq,reduceCtorEq,false_and,false_or]at hr;obtain⟨hkf,hvf,g',en',clock,l,rfl,rfl,ho,hg',hlen,hfit⟩:=hr;rw[hgm]at hg';cases hg';have h0:=Z1o (d:=d) (n:=n) hM.bound hk ho (by rw[hrel];unfold Z6s;rw[if_neg (by simp)];rfl);refine⟨hkf,hvf,.inr ⟨gm,en,clk,_,rfl,rfl,h0.1,h0.2.trans hgm,by rw[Zcw];exact hlen,fun q m x hm hx=>?_⟩⟩;by_cases hq:q=i
 . subst hq;rw[hmm]at hm;cases hm;obtain⟨x0,hx0,rfl⟩:=Zer hx;obtain⟨kc,vc,i1,i2,r1,r2⟩:=hfit q mm x0 hmm hx0;refine⟨kc,[.pointer (some ⟨g,0,none⟩)],i1,by rw[hmv];rfl,Rep.plain (fun g hg=>hI.post.sealed g hg) _ (Z12 hkf) r1,g,cur,T,rfl,?_,hw,?_⟩
   . rw[Z2d hM.bound hk hg,htr];rfl
   . refine Z8h hM.bound hk hap (Mv.toLow (id:=[j,3]) fun g p s hgs=>⟨?_,rfl⟩) hR;rw[Z2d hM.bound hk hgs,htr3];rfl
 . rw [Zeq hq]at hx;obtain⟨kc,vc,i1,i2,r1,r2⟩:=hfit q m x hm hx;refine⟨kc,vc,i1,i2,Rep.plain (fun g hg=>hI.post.sealed g hg) _ (Z12 hkf) r1,Rep.move (fun g hg=>hI.post.sealed g hg) (Mv.sub fun g s hgs=>?_) r2⟩;have:=Z1o (d:=d) (n:=n) hM.bound hk (g:=g) (o:=o) (s:=q::s) (by simpa using hgs) (by
     rw[hrel];cases e:Z6s u i j (q::s)with
     |none=>rfl
     | some m=>
       obtain⟨r,hr⟩:=Zff e;cases hr;exact(hq rfl).elim)
   exact⟨by simpa using this.1,this.2⟩
theorem Z1w(hM:Mem own w G O0 fun i=>has O0 i=true)(hk:Keeps (Zg own O0 PS AS b) own' w w'):∀{ps:List (PM×Ty)}{as:List (Bool×AV)}{j:Nat}{Oj Oe:Obs}{l:(chain (Zo ps)).den}{vs:List Value}{Oc:Obs}{Gb:Gs}{K:Obs->Option ρ}{r:ρ},ArgC ps as Oj Oe->SubO Oj O0->j+ps.length=PS.length->
   (∀o s,has Oj o=true->relA O0 PS AS 0 o s=relA O0 ps as j o s)->(∀k p s,j<=k->trA O0 PS AS 0 k p s=trA O0 ps as j k p s)->ArgsV own w G P as vs->LendsR own' w' ps l j vs->(b=true->(Zo ps).all Ty.apart=true)->BackI own w (Zj own w own' O0 PS AS d n) w' G O0 Gb Oc->Zl O0 ps as l Oc K=some r->
   ∃Oc' Gb',K Oc'=some r/\BackI own w (Zj own w own' O0 PS AS d n) w' G O0 Gb' Oc'
 | [],as,j,Oj,Oe,l,vs,Oc,Gb,K,r,hc,hs,hj,hR,hT,hv,hL,hap,hI,h=>by
   cases as with
   |nil=>exact⟨_,_,by simpa only[Zl]using h,hI⟩
   |cons a as=>exact hc.elim
 | (.val,t)::ps,as,j,Oj,Oe,l,vs,Oc,Gb,K,r,hc,hs,hj,hR,hT,hv,hL,hap,hI,h=>by
   cases as with
   |nil=>exact hc.elim
   | cons x as=>
     obtain⟨nil,a⟩:=x;obtain⟨v,vs',rfl,_,_,hv'⟩:=hv;simp only[Zl]at h;exact Z1w (ps:=ps) (as:=as) (j:=j+1) hM hk hc hs (by simp only[List.length_cons]at hj;omega) (fun o s ho=>by rw[hR o s ho,Zgu]) (fun k p s hjk=>by rw[hT k p s (by omega),Z52 (by omega)]) hv' hL hap hI h
 | (.mov,t)::ps,as,j,Oj,Oe,l,vs,Oc,Gb,K,r,hc,hs,hj,hR,hT,hv,hL,hap,hI,h=>by
   cases as with
   |nil=>exact hc.elim
   | cons x as=>
     obtain⟨nil,a⟩:=x;obtain⟨v,vs',rfl,_,_,hv'⟩:=hv;obtain⟨O1,s1,hr,hc⟩:=hc;simp only[Zl]at h;refine Z1w (ps:=ps) (as:=as) (j:=j+1) hM hk hc (s1.trans hs) (by simp only[List.length_cons]at hj;omega) (fun o s ho=>?_) (fun k p s hjk=>by rw[hT k p s (by omega),Z52 (by omega)]) hv' hL hap hI h;rw[hR o s (s1.has ho)];cases nil with
     |true=>simp only[relA]
     | false=>
       have hnf:¬a.rf o:=fun e=>by rw[(hr rfl o e).2]at ho;cases ho
       simp only[relA,AV.rel_none hnf]
 | (.lend, t)::ps,as,j,Oj,Oe,l,vs,Oc,Gb,K,r,hc,hs,hj,hR,hT,hv,hL,hap,hI,h=>by
   cases as with
   |nil=>exact hc.elim
   | cons x as=>
     obtain⟨nil,a⟩:=x;obtain⟨v,vs',rfl,_,hva,hv'⟩:=hv;obtain⟨rfl,hc⟩:=hc;obtain⟨ha,_⟩:=hva rfl;obtain⟨v2,vs2,hvv,⟨g,cur,T,rfl,hg,hw,hrep⟩,hL⟩:=hL;obtain⟨rfl,rfl⟩:=List.cons.inj hvv;have hjlt:j<PS.length:=by simp only[List.length_cons]at hj;omega
     have hap':b=true->t.apart=true/\(Zo ps).all Ty.apart=true:=fun e=>by
       have:=hap e;simpa[Zo,Bool.and_eq_true]using this
     have hj':j+1+ps.length=PS.length:=by simp only[List.length_cons]at hj;omega
     have hT':∀k p s,j+1<=k->trA O0 PS AS 0 k p s=trA O0 ps as (j+1) k p s:=fun k p s hjk=>by rw[hT k p s (by omega),Z52 (by omega)]
     rcases hc with⟨o,c,O1,rfl,hl,s1,h0,hr,hc⟩|⟨o,i,tid,kk,es,O1,rfl,hl,s1,h0,hc⟩
     rotate_left
     . have hl0:=hs _ _ hl;simp only[Zl,hl0]at h;obtain⟨hue,h⟩:=Z3 h;have hsfx:∀s,relA O0 ps as (j+1) o s=none:=fun s=>by
         cases e:relA O0 ps as (j+1) o s with
         |none=>rfl
         | some m=>
           have:=Z29 hc (s1.trans hs) o s m e;rw[h0]at this;cases this
       obtain⟨Oc',h,hI'⟩:=Zgv (i:=i) (j:=j) hM hk hl0 (fun e=>(hap' e).1) (fun s=>by
           rw[hR o s (Z1 hl)];simp only[relA,hl0,if_true,hsfx];cases Z6s t i j s<;>rfl) (fun s=>by
           rw[Z5o hjlt,hT j [] s (Nat.le_refl _)];simp only[trA,if_pos]) (fun p s=>by
           rw[List.cons_append,Z5o hjlt,hT j _ s (Nat.le_refl _)];simp only[trA,if_pos,List.cons_append,List.nil_append]) ha rfl hg hw hrep hI h
       refine Z1w (ps:=ps) (as:=as) (j:=j+1) hM hk hc (s1.trans hs) hj' (fun x s ho=>?_) hT' hv' hL (fun e=>(hap' e).2) hI' h;rw[hR x s (s1.has ho)];have hne:x≠o:=by rintro rfl;rw[h0]at ho;cases ho
       simp only[relA,hl0,if_neg hne]
     have hl0:=hs _ _ hl;obtain⟨hn,g0,cur0,T0,hgv,hown,hheap,hcc⟩:=hM.objs o _ hl0;obtain⟨g1,hgv',hcell⟩:=ha.one rfl rfl;rw[hgv]at hgv';cases hgv';simp only[List.cons.injEq,and_true,Value.pointer.injEq,Option.some.injEq,Addr.mk.injEq]at hcell;obtain⟨rfl,_⟩:=hcell;simp only[Zl]at h;split at h
     . rename_i rt hrt;obtain⟨hno,h⟩:=Zs h;obtain⟨Oc',Gb',h,hI'⟩:=Zfg (own2:=Zj own w own' O0 PS AS d n) hM hl0 hgv (by
           rw[Z2d hM.bound hk hg,Z5o hjlt,hT j [] [] (Nat.le_refl _)];simp only[trA,if_pos]) hw (by
           refine Zcv hM.bound hk (fun e=>(hap' e).1) (fun p s=>?_) hrep;rw[List.cons_append,Z5o hjlt,hT j _ s (Nat.le_refl _)];simp only[trA,if_pos,List.cons_append,List.nil_append,hrt,Option.map_some]) hI hrt hno h
       refine Z1w (ps:=ps) (as:=as) (j:=j+1) hM hk hc (s1.trans hs) (by simp only[List.length_cons]at hj;omega) (fun x s ho=>?_) (fun k p s hjk=>by rw[hT k p s (by omega),Z52 (by omega)]) hv' hL (fun e=>(hap' e).2) hI' h;rw[hR x s (s1.has ho)];have hnf:¬c.rf x:=fun e=>by rw[(hr x e).2]at ho;cases ho
       have hne:x≠o:=by rintro rfl;rw[h0]at ho;cases ho
       simp only[relA,hl0,AV.rel_none hnf,if_neg (fun e:x=o/\s=[]=>hne e.1)]
     . cases h
 | (.lendv,t)::ps,as,j,Oj,Oe,l,vs,Oc,Gb,K,r,hc,hs,hj,hR,hT,hv,hL,hap,hI,h=>by
   cases as with
   |nil=>exact hc.elim
   | cons x as=>
     obtain⟨nil,a⟩:=x;obtain⟨v,vs',rfl,_,hva,hv'⟩:=hv;obtain⟨rfl,O1,s1,hx,hc⟩:=hc;obtain⟨ha,_⟩:=hva rfl;obtain⟨v2,vs2,hvv,⟨cs,hcs,hrep⟩,hL⟩:=hL;obtain⟨rfl,rfl⟩:=List.cons.inj hvv;have hjlt:j<PS.length:=by simp only[List.length_cons]at hj;omega
     have hap':b=true->t.apart=true/\(Zo ps).all Ty.apart=true:=fun e=>by
       have:=hap e;simpa[Zo,Bool.and_eq_true]using this
     have hj':j+1+ps.length=PS.length:=by simp only[List.length_cons]at hj;omega
     have hT':∀k p s,j+1<=k->trA O0 PS AS 0 k p s=trA O0 ps as (j+1) k p s:=fun k p s hjk=>by rw[hT k p s (by omega),Z52 (by omega)]
     rcases hx with⟨o,i,fp,n0,tid0,tid,e,e2,xs,rfl,rfl,hl,hof,hsub,h0⟩|⟨hlf,hr⟩
     . have hl0:=hs _ _ hl;simp only[Zl,hl0]at h;obtain⟨x,hx,h⟩:=bind_some h;obtain⟨tid',e2',ys,K2,hq,hput⟩:=Z5l h;obtain⟨hue,hq2⟩:=Z3 hq;obtain⟨z,hpz,hk2⟩:=hput _ _ hq2;cases hue;have hcs':cs=[v]:=hcs;subst hcs';have hsfx:∀s,relA O0 ps as (j+1) o s=none:=fun s=>by
         cases e:relA O0 ps as (j+1) o s with
         |none=>rfl
         | some m=>
           have:=Z29 hc (s1.trans hs) o s m e;rw[h0]at this;cases this
       obtain⟨Oc',h,hI'⟩:=Zfh (i:=i) (j:=j) (tid:=tid) (e2:=e2) (y:=l.1) hM hk hl0 (fun e=>(hap' e).1) hof hx hpz (fun s=>by
           rw[hR o s (Z1 hl)];simp only[relA,hsfx,if_true];show(match strip (i::pn fp) s with|some q=>some (Lb.ob [j] q)|none=>none)=_
           cases strip (i::pn fp) s<;>rfl) (fun s=>by
           rw[Z5o hjlt,hT j [] s (Nat.le_refl _)];simp only[trA,if_pos];rfl) ha hrep hI hk2
       refine Z1w (ps:=ps) (as:=as) (j:=j+1) hM hk hc (s1.trans hs) hj' (fun x s ho=>?_) hT' hv' hL (fun e=>(hap' e).2) hI' h;rw[hR x s (s1.has ho)];have hne:x≠o:=by rintro rfl;rw[h0]at ho;cases ho
       simp only[relA,if_neg hne]
     . have hB:Zl O0 ((.lendv,t)::ps) ((false,a)::as) l Oc K=Z24 t l.1 a Oc fun O1=>Zl O0 ps as l.2 O1 K:=by
         cases a<;>first|rfl|exact hlf.elim
       have hA:∀x s,relA O0 ((.lendv,t)::ps) ((false,a)::as) j x s=(match a.rel ⟨[j],[],true⟩ x s with|some m=>some m|none=>relA O0 ps as (j+1) x s):=by
         intro x s;cases a<;>first|rfl|exact hlf.elim
       have hTA:∀p s,trA O0 ((.lendv,t)::ps) ((false,a)::as) j j p s=a.tr p s:=by
         intro p s;cases a<;>first|exact hlf.elim|simp only[trA,if_pos]
       rw [hB]at h;obtain⟨cs1,hc1,hv1⟩:=ha.cells hlf.cel;rw[hlf.agg]at hv1;obtain rfl:=hv1.inj hcs;obtain⟨Oc',h,hI'⟩:=Z67 (π:=[]) hM hk (hlf.sub hs) (fun e=>(hap' e).1) hc1 (fun p s=>by
           rw[List.nil_append,Z5o hjlt,hT j p s (Nat.le_refl _),hTA]) hrep hI h
       refine Z1w (ps:=ps) (as:=as) (j:=j+1) hM hk hc (s1.trans hs) hj' (fun x s ho=>?_) hT' hv' hL (fun e=>(hap' e).2) hI' h;rw[hR x s (s1.has ho),hA];have hnf:¬a.rf x:=fun e=>by rw[(hr x e).2]at ho;cases ho
       rw[AV.rel_none hnf]
end lent
end Go.Pv
namespace Go.Pv
open Go Go.Great
variable {own own' own1 own2:Own}{w w' w1 w2:World}{G G' G1 G2:Gs}{ρ:Type}{E:Env}[Base]
def ResAt(own:Own)(w:World)(root:Nat->Id):(rs:List Ty)->(chain rs).den->Nat->List Value->Prop
 |[],_,_,us=>us=[]
 |t::rs,l,k,us=>∃u us',us=u::us'/\(∃cs,IsVal t.agg cs u/\Rep own w t l.1 ⟨root k,[],true⟩ cs)/\ResAt own w root rs l.2 (k+1) us'
theorem Zcx {d j:Nat}{o:Id}(h:pre [d,j] o=true):pre [d] o=true:=Z17 [d] [j] o h
theorem ResAt.keep {d j:Nat}(hs:Sealed own w own' w)(hl:∀g o s,own g=.ob o s->pre [d,j] o=false->own' g=.ob o s):∀{rs:List Ty}{l:(chain rs).den}{k:Nat}{us:List Value},j<k->ResAt own w (fun k=>[d,k]) rs l k us->ResAt own' w (fun k=>[d,k]) rs l k us
 |[],_,_,_,_,h=>h
 | t::rs,l,k,us,hk,h=>by
   obtain⟨u,us',rfl,⟨cs,hv,hr⟩,h⟩:=h;refine⟨u,us',rfl,⟨cs,hv,Rep.move (fun g hg=>⟨(hs g hg).1,rfl⟩) (Mv.root fun g p s hg=>⟨hl g _ s hg ?_,rfl⟩) hr⟩,ResAt.keep hs hl (by omega) h⟩;cases e:pre [d,j] ([d,k]++p)
   . rfl
   . obtain⟨c,hc⟩:=pre_iff.1 e;simp only[List.cons_append,List.nil_append,List.cons.injEq,true_and]at hc;omega
theorem Zgw {d i j:Nat}{o:Id}(hij:i≠j)(h:pre [d,i] o=true):pre [d,j] o=false:=Zbg (r:=[d]) hij h
theorem Zes {f d:Nat}:∀{rs:List Ty}{j:Nat}{l:(chain rs).den}{O:Obs}{K:AV->Obs->Option ρ}{r:ρ},tupK E f d O rs j l K=some r->∃a O',K a O'=some r/\∀{σ:Type}(K':AV->Obs->Option σ),tupK E f d O rs j l K'=K' a O'
 |[],j,l,O,K,r,h=>⟨_,_,h,fun _=>rfl⟩
 | t::rs,j,l,O,K,r,h=>by
   simp only[tupK]at h;obtain⟨a,O1,h,_,he⟩:=Zdw h;obtain⟨as,O2,h,he2⟩:=Zes h;exact⟨_,_,h,fun K'=>by simp only[tupK];rw[he,he2]⟩
theorem Zag {f d:Nat}:∀{rs:List Ty}{j:Nat}{l:(chain rs).den}{O:Obs}{own:Own}{G:Gs}{P:Id->Prop}{us:List Value}{K:AV->Obs->Option ρ}{r:ρ},Mem own w G O P->(∀j',j<=j'->∀o,pre [d,j'] o=true->¬P o)->ResAt own w (fun k=>[d,k]) rs l j us->tupK E f d O rs j l K=some r->
   ∃a O' own' G',K a O'=some r/\Made own w G O own' w G' O' false a (.tuple us.toArray)/\∀o,has O' o=true->has O o=true\/pre [d] o=true
 | [],j,l,O,own,G,P,us,K,r,hM,hr,hR,h=>by
   cases(show us=[]from hR);exact⟨_,_,own,G,h,⟨rfl,trivial,Post.refl hM.objs hM.bound⟩,fun o ho=>.inl ho⟩
 | t ::rs,j,l,O,own,G,P,us,K,r,hM,hr,hR,h=>by
   obtain⟨u,us',rfl,⟨cs,hv,hrep⟩,hR⟩:=hR;simp only[tupK]at h;obtain⟨a,O1,G1,own1,h,hm1,hac,hid,_,_,_,hlook,hlab⟩:=Z2n hM (hr j (Nat.le_refl _)) hrep hv h;obtain⟨as,O2,own2,G2,h,hm2,hid2⟩:=Zag (own:=own1) (G:=G1) (j:=j+1) (hm1.post.mem hM) (fun j' hj o ho=>by
     rintro(h1|h1)
     . exact hr j' (by omega) o ho h1
     . rcases hid o h1 with h2|h2
       . exact hr j' (by omega) o ho (hM.live o h2)
       . rw[Zgw (by omega) ho]at h2;cases h2) (hR.keep hm1.post.sealed hlab (by omega)) h
   refine⟨_,_,own2,G2,h,⟨⟨u,us',rfl,?_,hm2.val⟩,⟨hm1.men.mono fun o ho=>hm2.post.stay rfl o ho,hm2.men⟩,hm1.post.thenF hm2.post fun o ho _=>hm1.post.stay rfl o ho⟩,fun o ho=>?_⟩
   . exact AVv.keep hm2.post.sealed (P:=fun o=>has O1 o=true) (fun o ho=>⟨hm2.post.same o ho (hm2.post.stay rfl o ho),hm2.post.nest rfl o ho⟩) hm1.men hm1.val
   . rcases hid2 o ho with h1|h1
     . exact(hid o h1).imp id Zcx
     . exact .inr h1
theorem Zhf {f:Nat}{d:Option Nat}{O:Obs}{rs:List Ty}{l:(chain rs).den}{K:AV->Obs->Option ρ}{r:ρ}(h:resK E f d O rs l K=some r):∃a O',K a O'=some r/\∀{σ:Type}(K':AV->Obs->Option σ),resK E f d O rs l K'=K' a O':=by
 cases rs with
 |nil=>exact⟨_,_,by cases d<;>exact h,fun K'=>by cases d<;>rfl⟩
 | cons t rs=>
   cases d with
   |none=>cases rs<;>cases h
   | some d=>
     cases rs with
     | nil=>
       simp only[resK]at h;obtain⟨a,O1,h,_,he⟩:=Zdw h;exact⟨_,_,h,fun K'=>by simp only[resK];rw[he]⟩
     | cons t2 rs=>
       simp only[resK]at h;obtain⟨a,O1,h,he⟩:=Zes h;exact⟨_,_,h,fun K'=>by simp only[resK];rw[he]⟩
theorem Zfi {f:Nat}{d:Option Nat}{O:Obs}{P:Id->Prop}{rs:List Ty}{l:(chain rs).den}{us:List Value}{K:AV->Obs->Option ρ}{r:ρ}(hM:Mem own w G O P)(hr:∀e,d=some e->∀o,pre [e] o=true->¬P o)
   (hR:∀e,d=some e->ResAt own w (Zcu e rs.length) rs l 1 us) (h:resK E f d O rs l K=some r):
   ∃a O' own' G',K a O'=some r/\Made own w G O own' w G' O' false a (retV us)/\∀o,has O' o=true->has O o=true\/∃e,d=some e/\pre [e] o=true:=by
 cases rs with
 | nil=>
   refine⟨.dead,O,own,G,by cases d<;>exact h,⟨trivial,trivial,Post.refl hM.objs hM.bound⟩,fun o ho=>.inl ho⟩
 | cons t rs=>
   cases d with
   |none=>cases rs<;>cases h
   | some d=>
     have hR:=hR d rfl;cases rs with
     | nil=>
       simp only[resK]at h;obtain⟨u,us',rfl,⟨cs,hv,hrep⟩,hR⟩:=hR;cases(show us'=[]from hR);obtain⟨a,O1,G1,own1,h,hm1,hac,hid,_⟩:=Z2n hM (hr d rfl) (show Rep own w t l.1 ⟨[d],[],true⟩ cs from hrep) hv h;exact⟨a,O1,own1,G1,h,hm1,fun o ho=>(hid o ho).imp id fun h=>⟨d,rfl,h⟩⟩
     | cons t2 rs=>
       simp only[resK]at h;have hroot:Zcu d (t::t2::rs).length=fun k=>[d,k]:=by
         funext k;simp[Zcu]
       rw[hroot]at hR;obtain⟨a,O',own',G',h,hm,hid⟩:=Zag (w:=w) hM (fun j' _ o ho=>hr d rfl o (Zcx ho)) hR h;refine⟨a,O',own',G',h,?_,fun o ho=>(hid o ho).imp id fun h=>⟨d,rfl,h⟩⟩;obtain⟨u,us',rfl,_,u2,us2,rfl,_,_⟩:=hR;exact hm
theorem Ze0 {t:Ty}{y:t.den}:∀{e:Ty}{x:e.den}{p:List Bool}{K:e.den->Option ρ}{r:ρ},Z4v e x p (fun tid2 e2 _ K2=>Ze t (.own tid2 e2) y K2) K=some r->
   ∃z,K z=some r/\∀{σ:Type}(K':e.den->Option σ),Z4v e x p (fun tid2 e2 _ K2=>Ze t (.own tid2 e2) y K2) K'=K' z
 | .own tid e2,xs,[],K,r,h=>by
   obtain⟨hue,h⟩:=Z3 h;subst hue;exact⟨_,h,fun K'=>Z18 _ _ _⟩
 | .pair a b,x,false::p,K,r,h=>by
   obtain⟨z,h,he⟩:=Ze0 (e:=a) h;exact⟨(z,x.2),h,fun K'=>he _⟩
 | .pair a b,x,true::p,K,r,h=>by
   obtain⟨z,h,he⟩:=Ze0 (e:=b) h;exact⟨(x.1,z),h,fun K'=>he _⟩
 |.pair _ _,_,[],_,_,h=>by simp only[Z4v]at h;cases h
 |.int _,_,p,_,_,h=>by cases p<;>cases h
 |.bool,_,p,_,_,h=>by cases p<;>cases h
 |.str,_,p,_,_,h=>by cases p<;>cases h
 |.unit,_,p,_,_,h=>by cases p<;>cases h
 |.slc _,_,p,_,_,h=>by cases p<;>cases h
 |.sptr _,_,p,_,_,h=>by cases p<;>cases h
 |.own _ _,_,_::_,_,_,h=>by cases h
 |.bx _,_,p,_,_,h=>by cases p<;>cases h
 |.hole _,_,p,_,_,h=>by cases p<;>cases h
 |.arr _ _,_,p,_,_,h=>by cases p<;>cases h
 |.mp _ _ _,_,p,_,_,h=>by cases p<;>cases h
 |.nilp,_,p,_,_,h=>by cases p<;>cases h
 |.fo,_,p,_,_,h=>by cases p<;>cases h
 |.hdr,_,p,_,_,h=>by cases p<;>cases h
 |.clo _ _,_,p,_,_,h=>by cases p<;>cases h
theorem Z35 {O0:Obs}:∀{ps:List (PM×Ty)}{as:List (Bool×AV)}{l:(chain (Zo ps)).den}{O:Obs}{K:Obs->Option ρ}{r:ρ},Zl O0 ps as l O K=some r->∃O',K O'=some r/\∀{σ:Type}(K':Obs->Option σ),Zl O0 ps as l O K'=K' O'
 |[],as,l,O,K,r,h=>⟨_,by simpa only[Zl]using h,fun K'=>by simp only[Zl]⟩
 | (.val,t)::ps,x::as,l,O,K,r,h=>by
   simp only[Zl]at h⊢;exact Z35 h
 | (.mov,t)::ps,x::as,l,O,K,r,h=>by
   simp only[Zl]at h⊢;exact Z35 h
 | (.lend,t)::ps,(nil,a)::as,l,O,K,r,h=>by
   simp only[Zl]at h⊢;split at h
   . split at h
     . rename_i rt hrt;obtain⟨hno,h⟩:=Zs h;obtain⟨c1,O1,h,_,he⟩:=Z4j h;obtain⟨hn,h⟩:=Zb h;obtain⟨O2,h,he2⟩:=Z35 h;refine⟨O2,h,fun K'=>?_⟩;rw[hno];show unpK t l.1 rt O _=_
       rw[he];simp only[newK,hn,nif];exact he2 K'
     . cases h
   . split at h
     . rename_i tid k u es hl;obtain⟨hue,h⟩:=Z3 h;subst hue;obtain⟨hn,h⟩:=Zb h;obtain⟨O2,h,he2⟩:=Z35 h;refine⟨O2,h,fun K'=>?_⟩;rw[Z18];simp only[newK,hn,nif];exact he2 K'
     . cases h
   . cases h
 | (.lendv,t)::ps,(nil,a)::as,l,O,K,r,h=>by
   by_cases hS:∃o i fp n,a=.s o i (.hd fp n)
   . obtain⟨o,i,fp,n,rfl⟩:=hS;simp only[Zl]at h;split at h
     . rename_i tid e xs hl;obtain⟨x,hx,h⟩:=bind_some h;obtain⟨z,h,he1⟩:=Ze0 h;obtain⟨hn,h⟩:=Zb h;obtain⟨O2,h,he2⟩:=Z35 h;refine⟨O2,h,fun K'=>?_⟩;simp only[Zl,hl,hx,Option.bind_some];rw[he1];simp only[newK,hn,nif];exact he2 K'
     . cases h
   . have hA:∀{σ:Type}(K':Obs->Option σ),Zl O0 ((.lendv,t)::ps) ((nil,a)::as) l O K'=Z24 t l.1 a O fun O1=>Zl O0 ps as l.2 O1 K':=by
       intro σ K';cases a<;>first|rfl|(rename_i k;cases k<;>first|rfl|exact(hS ⟨_,_,_,_,rfl⟩).elim)
     rw[hA]at h;obtain⟨O1,h,he⟩:=backV_eq h;obtain⟨O2,h,he2⟩:=Z35 h;exact⟨O2,h,fun K'=>by rw[hA,he,he2]⟩
 | _::_,[],_,_,_,_,h=>by simp only[Zl]at h;cases h
where
 backV_eq {ρ:Type}:∀{t:Ty}{y:t.den}{a:AV}{O:Obs}{K:Obs->Option ρ}{r:ρ},Z24 t y a O K=some r->∃O',K O'=some r/\∀{σ:Type}(K':Obs->Option σ),Z24 t y a O K'=K' O'
   | .pair t u,y,.pr c d,O,K,r,h=>by
     simp only[Z24]at h;obtain⟨O1,h,he⟩:=backV_eq h;obtain⟨O2,h,he2⟩:=backV_eq h;exact⟨O2,h,fun K'=>by simp only[Z24];rw[he,he2]⟩
   | .own tid e,y,.ref o,O,K,r,h=>by
     simp only[Z24]at h;obtain⟨hn,h⟩:=Zb h;exact⟨_,h,fun K'=>by simp only[Z24,newK,hn,nif]⟩
   |t,y,.v _ _,O,K,r,h=>⟨O,by cases t<;>exact h,fun K'=>by cases t<;>rfl⟩
   |t,y,.hole _,O,K,r,h=>⟨O,by cases t<;>exact h,fun K'=>by cases t<;>rfl⟩
   |t,y,.dead,O,K,r,h=>by cases t<;>cases h
   |t,y,.tn,O,K,r,h=>by cases t<;>cases h
   |t,y,.tp _ _,O,K,r,h=>by cases t<;>cases h
   |t,y,.hs _ _ _,O,K,r,h=>by cases t<;>cases h
   |t,y,.p _ _ _,O,K,r,h=>by cases t<;>cases h
   |t,y,.e _ _ _ _,O,K,r,h=>by cases t<;>cases h
   |t,y,.s _ _ _,O,K,r,h=>by cases t<;>cases h
   |t,y,.ap _ _,O,K,r,h=>by cases t<;>cases h
   |t,y,.cl _ _,O,K,r,h=>by cases t<;>cases h
   |.int _,y,.pr _ _,O,K,r,h=>by cases h
   |.bool,y,.pr _ _,O,K,r,h=>by cases h
   |.str,y,.pr _ _,O,K,r,h=>by cases h
   |.unit,y,.pr _ _,O,K,r,h=>by cases h
   |.slc _,y,.pr _ _,O,K,r,h=>by cases h
   |.sptr _,y,.pr _ _,O,K,r,h=>by cases h
   |.own _ _,y,.pr _ _,O,K,r,h=>by cases h
   |.bx _,y,.pr _ _,O,K,r,h=>by cases h
   |.hole _,y,.pr _ _,O,K,r,h=>by cases h
   |.arr _ _,y,.pr _ _,O,K,r,h=>by cases h
   |.mp _ _ _,y,.pr _ _,O,K,r,h=>by cases h
   |.nilp,y,.pr _ _,O,K,r,h=>by cases h
   |.fo,y,.pr _ _,O,K,r,h=>by cases h
   |.hdr,y,.pr _ _,O,K,r,h=>by cases h
   |.clo _ _,y,.pr _ _,O,K,r,h=>by cases h
   |.int _,y,.ref _,O,K,r,h=>by cases h
   |.bool,y,.ref _,O,K,r,h=>by cases h
   |.str,y,.ref _,O,K,r,h=>by cases h
   |.unit,y,.ref _,O,K,r,h=>by cases h
   |.slc _,y,.ref _,O,K,r,h=>by cases h
   |.sptr _,y,.ref _,O,K,r,h=>by cases h
   |.pair _ _,y,.ref _,O,K,r,h=>by cases h
   |.bx _,y,.ref _,O,K,r,h=>by cases h
   |.hole _,y,.ref _,O,K,r,h=>by cases h
   |.arr _ _,y,.ref _,O,K,r,h=>by cases h
   |.mp _ _ _,y,.ref _,O,K,r,h=>by cases h
   |.nilp,y,.ref _,O,K,r,h=>by cases h
   |.fo,y,.ref _,O,K,r,h=>by cases h
   |.hdr,y,.ref _,O,K,r,h=>by cases h
   |.clo _ _,y,.ref _,O,K,r,h=>by cases h
def CallOk(P:Program)(f:FuncId)(s:Sg)(F:s.A.den->Option s.R.den):Prop:=
 ∀ l r,F l=some r->∀(own:Own)(w:World)(vs:List Value),ArgsR own w s.ps l 0 vs->(∀g,w.heap.size<=g->own g=.out)->Base.B own w->
   Calls P f vs.toArray w fun e w'=>∃us own',e=.returned (retV us)/\us.length=s.rs.length/\ResR own' w' s.rs r.1 s.ps.length us/\LendsR own' w' s.ps r.2 0 vs/\Keeps own own' w w'/\∀g,w'.heap.size<=g->own' g=.out
theorem ResR.at {O:Obs}{PS:List (PM×Ty)}{AS:List (Bool×AV)}{d n:Nat}{b:Bool}{P:Id->Prop}(hM:Mem own w G O P)(hk:Keeps (Zg own O PS AS b) own' w w'):∀{rs:List Ty}{l:(chain rs).den}{k:Nat}{us:List Value},(b=true->rs.all Ty.apart=true)->ResR own' w' rs l (PS.length+k) us->
   ResAt (Zj own w own' O PS AS d n) w' (Zcu d n) rs l (k+1) us
 |[],_,_,_,_,h=>h
 | t ::rs,l,k,us,hap,h=>by
   obtain⟨u,us',rfl,⟨cs,hv,hr⟩,h⟩:=h;have hap':b=true->t.apart=true/\rs.all Ty.apart=true:=fun e=>by
     have:=hap e;simpa[Bool.and_eq_true]using this
   refine⟨u,us',rfl,⟨cs,hv,Zcv hM.bound hk (fun e=>(hap' e).1) (fun p s=>?_) hr⟩,ResR.at (k:=k+1) hM hk (fun e=>(hap' e).2) h⟩;simp only[List.cons_append,List.nil_append,trL,if_pos (Nat.le_add_right PS.length k),Nat.add_sub_cancel_left]
theorem Ze1 {call:(g:Nat)->(s:Sg)->s.A.den->Option s.R.den}{f g key:Nat}{d:Option Nat}{O:Obs}{args:List (Bool×AV)}{vs:List Value}{K:AV->Obs->Option ρ}{r:ρ}(hM:Mem own w G O fun i=>has O i=true)(hr:∀e,d=some e->∀i,pre [e] i=true->has O i=false)
   (hcall:∀s,E.sg key=some s->CallOk E.P g s (call key s)) (hv:ArgsV own w G (fun i=>has O i=true) args vs) (h:Z4q E call f d O key args K=some r):
   ∃a O',K a O'=some r/\∀R:Value->World->Prop,(∀own' w' G' v,Made own w G O own' w' G' O' true a v->R v w')->Calls E.P g vs.toArray w fun e w'=>∃v,e=.returned v/\R v w':=by
 unfold Z4q at h;split at h
 . rename_i s hs;obtain⟨l,O1,b,h,hargc,hsub,heqA⟩:=Z2o h;obtain⟨hapart,h⟩:=Zs h;obtain⟨res,hres,h⟩:=bind_some h;obtain⟨O2,h,heqB⟩:=Z35 h;obtain⟨a,O3,h,heqR⟩:=Zhf h;refine⟨a,O3,h,fun R hR=>?_⟩;obtain⟨l',O1',b',hK,_,hgone,hrep⟩:=Z1h (j:=0) (O0:=O) (K:=fun l O' b=>some (l,O',b)) (r:=(l,O1,b)) hv hM.objs (fun _ _ h=>h) (heqA _);simp only[Option.some.injEq,Prod.mk.injEq]at hK;obtain⟨rfl,rfl,rfl⟩:=hK;have hap:b'=true->s.rs.all Ty.apart=true/\(Zo s.ps).all Ty.apart=true:=by
     intro e;subst e;rw[Bool.true_and,Bool.not_eq_false',Bool.and_eq_true]at hapart;exact hapart
   have hA:=hrep (own1:=Zg own O s.ps args b') Z51 (fun g o s' m hg hm=>by simp only[Zg,hg,hm]) (fun e g o s' hg ho=>by
     subst e;have hn:relA O s.ps args 0 o s'=none:=by
       cases e:relA O s.ps args 0 o s' with
       |none=>rfl
       |some m=>rw[(hgone o s' m e).2]at ho;cases ho
     simp only[Zg,hg,hn])
   have hcb:∀g,w.heap.size<=g->Zg own O s.ps args b' g=.out:=fun g hg=>by simp only[Zg,hM.bound g hg]
   refine(hcall s hs _ _ hres _ w vs hA hcb (Base.keep hM.base Z51)).mono ?_;rintro e w' ⟨us,own',rfl,hlen,hRes,hLend,hk,hbd⟩;refine⟨_,rfl,?_⟩;obtain⟨dd,hdd⟩:∃dd:Nat,∀e,d=some e->e=dd:=by
     cases d with
     |none=>exact⟨0,fun e h=>by cases h⟩
     |some e=>exact⟨e,fun e' h=>by cases h;rfl⟩
   have hp:=Zbs (d:=dd) (n:=s.rs.length) hM hk hbd hsub hgone;obtain⟨Oc,Gb,hK,hI⟩:=Z1w (d:=dd) (n:=s.rs.length) (K:=fun O'=>some O') (r:=O2) (j:=0) (Oj:=O) hM hk hargc (SubO.refl O) (Nat.zero_add _) (fun _ _ _=>rfl) (fun _ _ _ _=>rfl) hv hLend (fun e=>(hap e).2)
     ⟨hp,fun _ _=>rfl,fun d hd o ho=>hsub.no (hd o ho)⟩ (heqB _)
   cases hK;have hfr:∀e,d=some e->∀o,pre [e] o=true->¬((fun i=>has O i=true) o\/has O2 o=true):=by
     intro e he o ho;rintro(h1|h1)
     . rw[hr e he o ho]at h1;cases h1
     . rw[hI.fresh e (hr e he) o ho]at h1;cases h1
   obtain⟨a',O4,own3,G3,hK,hmade,hid⟩:=Zfi (E:=E) (f:=f) (d:=d) (K:=fun a O'=>some (a,O')) (r:=(a,O3)) (hI.post.mem hM) hfr (fun e he=>by
     rw[hdd e he];exact ResR.at (k:=0) hM hk (fun e=>(hap e).1) hRes) (heqR _)
   simp only[Option.some.injEq,Prod.mk.injEq]at hK;obtain⟨rfl,rfl⟩:=hK;refine hR own3 w' G3 _ ⟨hmade.val,hmade.men,hI.post.thenF hmade.post fun o ho ho2=>?_⟩;rcases hid o ho2 with h1|⟨e,he,h1⟩
   . exact h1
   . rw[hr e he o h1]at ho;cases ho
 . cases h
end Go.Pv
namespace Go.Pv
open Go Go.Great
variable {own own' own1 own2:Own}{w w' w1 w2:World}{G G' G1 G2:Gs}{ρ:Type}{E:Env}[Base]
theorem ArgsV.app {P:Id->Prop}:∀{as bs:List (Bool×AV)}{vs us:List Value},ArgsV own w G P as vs->ArgsV own w G P bs us->ArgsV own w G P (as++bs) (vs++us)
 |[],_,_,_,h1,h2=>by cases(show _=[]from h1);exact h2
 | (nil,a)::as,_,_,_,h1,h2=>by
   obtain⟨v,vs',rfl,n1,n2,h1⟩:=h1;exact⟨v,vs'++_,rfl,n1,n2,h1.app h2⟩
theorem ArgsV.ops {P:Id->Prop}{ev:Operand->AV}{V:Operand->Value}(hc:∀v,V (.const v)=v):∀{l:List Operand},(∀x∈l,AVv own w G (ev x) (V x)/\(ev x).men P)->ArgsV own w G P (l.map fun x=>(Z1q x,ev x)) (l.map V)
 |[],_=>rfl
 |x::l,h=>⟨V x,l.map V,rfl,fun hn=>by rw[Z4h hn];exact hc _,fun _=>h x List.mem_cons_self,ArgsV.ops hc fun y hy=>h y (List.mem_cons_of_mem _ hy)⟩
theorem Z7j {P:Id->Prop}{p:Pos}:∀{t:Ty}{y:t.den}{vs:List Value}{K:List (Bool×AV)->Option ρ}{r:ρ},t.plain=true->Rep own w t y p vs->capT t y K=some r->∃l,K l=some r/\ArgsV own w G P l vs
 |.unit,y,vs,K,r,_,hR,h=>⟨[],h,hR⟩
 | .pair a b,y,vs,K,r,hp,hR,h=>by
   simp only[capT]at h;obtain⟨h1,h⟩:=Z0 h;obtain⟨h2,h⟩:=Zs h;obtain⟨c1,c2,rfl,hR1,hR2⟩:=hR;simp only[Ty.plain,Bool.and_eq_true]at hp;obtain⟨l,h,hl⟩:=Z7j (P:=P) hp.2 hR2 h;have hlen:=hR1.length;rw[Z2 h1]at hlen
   match c1,hlen with
   | [u],_=>
     refine⟨_,h,u,c2,rfl,fun e=>(nomatch e),fun _=>⟨?_,trivial⟩,hl⟩;refine⟨[u],⟨hp.1,Rep.plain (Sealed.refl _ _) _ hp.1 hR1⟩,?_⟩;show IsVal a.agg [u] u
     rw[h2];rfl
 |.int _,_,_,_,_,_,_,h=>by cases h
 |.bool,_,_,_,_,_,_,h=>by cases h
 |.str,_,_,_,_,_,_,h=>by cases h
 |.slc _,_,_,_,_,_,_,h=>by cases h
 |.sptr _,_,_,_,_,_,_,h=>by cases h
 |.own _ _,_,_,_,_,_,_,h=>by cases h
 |.bx _,_,_,_,_,_,_,h=>by cases h
 |.hole _,_,_,_,_,_,_,h=>by cases h
 |.arr _ _,_,_,_,_,_,_,h=>by cases h
 |.mp _ _ _,_,_,_,_,_,_,h=>by cases h
 |.nilp,_,_,_,_,_,_,h=>by cases h
 |.fo,_,_,_,_,_,_,h=>by cases h
 |.hdr,_,_,_,_,_,_,h=>by cases h
 |.clo _ _,_,_,_,_,_,_,h=>by cases h
theorem Zah {P:Id->Prop}:∀{a:AV}{vs:List Value}{K:List (Bool×AV)->Option ρ}{r:ρ},AVc own w G a vs->a.men P->capK a K=some r->∃l,K l=some r/\ArgsV own w G P l vs
 |.v t x,vs,K,r,hc,hm,h=>Z7j hc.1 hc.2 h
 | .pr a b,vs,K,r,hc,hm,h=>by
   simp only[capK]at h;obtain⟨h0,h⟩:=Z0 h;obtain⟨h1,h⟩:=Z0 h;obtain⟨h2,h⟩:=Zs h;obtain⟨c1,c2,rfl,hR1,hR2⟩:=hc;obtain⟨l,h,hl⟩:=Zah (P:=P) hR2 hm.2 h;have hlen:=hR1.length;rw[Z2 h1]at hlen
   match c1,hlen with
   | [u],_=>
     refine⟨_,h,u,c2,rfl,fun e=>(nomatch e),fun _=>⟨AVv.of hR1 ?_,hm.1⟩,hl⟩;rw[h2];rfl
 |.dead,_,_,_,_,_,h=>by cases h
 |.tn,_,_,_,_,_,h=>by cases h
 |.tp _ _,_,_,_,_,_,h=>by cases h
 |.hole _,_,_,_,_,_,h=>by cases h
 |.ref _,_,_,_,_,_,h=>by cases h
 |.hs _ _ _,_,_,_,_,_,h=>by cases h
 |.p _ _ _,_,_,_,_,_,h=>by cases h
 |.e _ _ _ _,_,_,_,_,_,h=>by cases h
 |.s _ _ _,_,_,_,_,_,h=>by cases h
 |.ap _ _,_,_,_,_,_,h=>by cases h
 |.cl _ _,_,_,_,_,_,h=>by cases h
theorem Zfj(hE:EnvOk E){g:Nat}{args:List (Bool×AV)}{K:Nat->Option ρ}{r:ρ}(h:keyK E g args K=some r):∃key,K key=some r/\key % 100000=g:=by
 unfold keyK at h;split at h
 . obtain⟨h1,h⟩:=Z0 h;exact⟨g,h,Nat.mod_eq_of_lt (by have:=Nat.le_of_ble_eq_true h1;omega)⟩
 . split at h
   . rename_i k hk;exact⟨k,h,hE.clo _ _ _ hk⟩
   . cases h
theorem Ze2 {P:Program}{V:Operand->Value}{o:Oper}{g:Operand}{args:Array Operand}{at':Array TypeId}{n:Nat}{caps:Array Value}{fn:Func}(ho:o.op=.call {callee:=.value g,args:=args,argTypes:=at'})(hg:V g=.func (.func n) #[] caps)
   (hf:P.funcs[n]?=some fn) (hb:fn.body.isNone=false) (hn:(fn.name== "runtime.NumGoroutine")=false):(execOp V o).run P w=.ok (.enter n (args.map V++caps)) w:=by
 unfold execOp;rw[ho];have hcf:∀a:Array Value,(callFunc n a).run P w=.ok (.enter n a) w:=fun a=>by
   unfold callFunc;simp only[Sem.run_bind];show((Sem.run P (match P.funcs[n]? with|none=>_|some fn=>_) w))=_
   rw[hf];simp only[hn,hb,Bool.false_eq_true,if_false];rfl
 simp only[resolve,Deferred.ofValue,hg,Sem.run_bind,Sem.run_pure,Result.andThen_ok,invoke];rw[hcf];simp
theorem Zbt(hE:EnvOk E){call:(g:Nat)->(s:Sg)->s.A.den->Option s.R.den}(hcall:∀key s,E.sg key=some s->CallOk E.P (key % 100000) s (call key s)){f:Nat}{o:Oper}{g:Operand}{args:Array Operand}{at':Array TypeId}{ev:Operand->AV}{V:Operand->Value}{O:Obs}{K:AV->Obs->Bool->Option ρ}{r:ρ}(hM:Mem own w G O fun i=>has O i=true)
   (hr:∀e,o.dst=some e->∀i,pre [e] i=true->has O i=false) (hx:∀x∈o.op.operands.toList,AVv own w G (ev x) (V x)/\(ev x).men fun i=>has O i=true) (hc:∀v,V (.const v)=v) (ho:o.op=.call {callee:=.value g,args:=args,argTypes:=at'})
   (h:opW E call f o ev O K=some r):Comes1 E V o own w G O K r:=by
 have hxg:=hx g (by rw[ho];simp[Op.operands,Call.operands]);have hargs:ArgsV own w G (fun i=>has O i=true) (args.toList.map fun x=>(Z1q x,ev x)) (args.toList.map V):=ArgsV.ops hc fun x hxm=>hx x (by rw[ho];simp[Op.operands,Call.operands];exact .inr (by simpa using hxm))
 have key:∀{n:Nat}{cs:List (Bool×AV)}{caps:List Value},V g=.func (.func n) #[] caps.toArray->ArgsV own w G (fun i=>has O i=true) cs caps->(keyK E n (args.toList.map fun x=>(Z1q x,ev x)) fun key=>Z4q E call f o.dst O key ((args.toList.map fun x=>(Z1q x,ev x))++cs) fun a O'=>K a O' true)=some r->
     Comes1 E V o own w G O K r:=by
   intro n cs caps hv hcs h;obtain⟨key,h,hk⟩:=Zfj hE h;have hs:∃s,E.sg key=some s:=by
     unfold Z4q at h;split at h
     . exact⟨_,by assumption⟩
     . cases h
   obtain⟨s,hs⟩:=hs;obtain⟨fn,hfn,hb,hnm⟩:=hE.fns key s hs;rw[hk]at hfn;obtain⟨a,O',h,hR⟩:=Ze1 (g:=n) hM hr (fun s hs=>by have:=hcall key s hs;rw[hk]at this;exact this) (hargs.app hcs) h;refine⟨a,O',true,h,fun R hm=>?_⟩;unfold Does;rw[Ze2 ho hv hfn hb hnm];have:=hR R hm;have e:(args.toList.map V++caps).toArray=args.map V++caps.toArray:=by
     apply Array.ext';simp
   rw[e]at this;exact this
 obtain⟨dst,op,type,pos,after,guard⟩:=o;cases ho;simp only[opW]at h;split at h
 . rename_i n c hg;obtain⟨hv,hm⟩:=hxg;rw[hg]at hv hm;obtain⟨cs,⟨vs,rfl,hcc⟩,hv⟩:=hv;have hv:V g=.func (.func n) #[] vs.toArray:=by
     have hv':[Value.func (.func n) #[] vs.toArray]=[V g]:=hv;simpa using hv'.symm
   obtain⟨l,h,hl⟩:=Zah (P:=fun i=>has O i=true) hcc hm h;exact key hv hl h
 . rename_i n t y hg;obtain⟨hv,hm⟩:=hxg;rw[hg]at hv hm;obtain⟨cs,⟨hp,_,vs,rfl,hcc⟩,hv⟩:=hv;have hv:V g=.func (.func n) #[] vs.toArray:=by
     have hv':[Value.func (.func n) #[] vs.toArray]=[V g]:=hv;simpa using hv'.symm
   obtain⟨l,h,hl⟩:=Z7j (P:=fun i=>has O i=true) (G:=G) (by simpa[Ty.plain]using hp) hcc h;exact key hv hl h
 . cases h
end Go.Pv
