/- Outcomes told apart, and counted: both sides answer the same. Its condition: the outcomes are small. -/
import Derived.Test.YtjgfofcgmcnblaaGreatPfE2
import Derived.Test.YtjgfofcgmcnblaaGreatPfTB
set_option maxHeartbeats 2000000
set_option linter.all false
namespace Go.Proofs.YtjgfofcgmcnblaaGreat.Pf
open Go Go.Pv
theorem drop_eq {α:Type}{a b:List α}{j:Nat}(h1:j<a.length)(h2:j<b.length):a.drop j=b.drop j↔a[j]=b[j]∧a.drop (j+1)=b.drop (j+1):=by
  rw[List.drop_eq_getElem_cons h1,List.drop_eq_getElem_cons h2,List.cons.injEq]
/-! ### The reference-/
theorem likeO_ans(a b:Oc)(h1:a.1.length≤1048576)(h2:b.1.length≤1048576):Ans n_spec_LikeOutcomes s_spec_LikeOutcomes (a,b,()) ((bo (a=b),()),()):=by
  obtain⟨l,e,c,⟨⟩⟩:=a;obtain⟨l',e',c',⟨⟩⟩:=b;refine Gv.ans (Gv.of (fun k=>spec_LikeOutcomes.F_eq (cl k) k (l,e,c,()) (l',e',c',())) ?_);unfold spec_LikeOutcomes.F spec_LikeOutcomes.Fm;dsimp only at h1 h2⊢;have e0:((l,e,c,()):Oc)=(l',e',c',())↔(l.length=l'.length∧l=l')∧e=e'∧c=c':=by
    constructor
    . intro h;simp only[Prod.mk.injEq,and_true]at h;exact⟨⟨congrArg _ h.1,h.1⟩,h.2.1,h.2.2⟩
    . rintro⟨⟨_,rfl⟩,rfl,rfl⟩;rfl
  rw[bo_congr e0];by_cases c1:l.length=l'.length
  case neg=>rw[bo_f (fun e=>c1 e.1.1)];exact Tq.bt (bne_iff_ne.2 (by omega)) (Tq.ret rfl)
  refine Tq.bf (bne_eq_false_iff_eq.2 (by omega)) ?_;by_cases c2:e=e'
  case neg=>rw[bo_f (fun e=>c2 e.2.1)];exact Tq.bt (bne_iff_ne.2 c2) (Tq.ret rfl)
  refine Tq.bf (bne_eq_false_iff_eq.2 c2) ?_;by_cases c3:c=c'
  case neg=>rw[bo_f (fun e=>c3 e.2.2)];exact Tq.bt (bne_iff_ne.2 c3) (Tq.ret rfl)
  refine Tq.bf (bne_eq_false_iff_eq.2 c3) ?_;rw[bo_congr (show((l.length=l'.length∧l=l')∧e=e'∧c=c')↔l.drop 0=l'.drop 0 from⟨fun h=>h.1.2,fun h=>⟨⟨c1,h⟩,c2,c3⟩⟩)];have key:∀(d j:Nat),l.length-j=d→Tq (d+1) (fun k q=>spec_LikeOutcomes.L0 (cl k) k (l,e,c,()) (l',e',c',()) q (j:Int)) (· =((bo (l.drop j=l'.drop j),()),())):=by
    intro d
    induction d with
    | zero=>
      intro j hd;refine Tq.succ ?_;show Tq _ (fun k q=>spec_LikeOutcomes.step0 (cl k) k ..) _
      unfold spec_LikeOutcomes.step0;rw[bo_t (by rw[List.drop_of_length_le (by omega),List.drop_of_length_le (by omega)])];exact Tq.bf (dnlt (by dsimp only;omega)) (Tq.ret rfl)
    | succ d ih=>
      intro j hd;have hj:j<l.length:=by omega
      have hj':j<l'.length:=by omega
      refine Tq.succ ?_;show Tq _ (fun k q=>spec_LikeOutcomes.step0 (cl k) k ..) _
      unfold spec_LikeOutcomes.step0;refine Tq.bt (dlt hj) (Tq.bt (dle0 _) (Tq.some (lg hj) (Tq.bt (dle0 _) (Tq.some (lg hj') ?_))));rw[bo_congr (drop_eq hj hj')];by_cases c4:l[j]=l'[j]
      . refine Tq.bf (bne_eq_false_iff_eq.2 c4) ?_;rw[bo_congr (and_iff_right c4),ws hj (by omega)];exact ih (j+1) (by omega)
      . rw[bo_f (fun e=>c4 e.1)];exact Tq.bt (bne_iff_ne.2 c4) (Tq.ret rfl)
  exact Tq.diag (key _ 0 rfl)
/--Small outcomes,not too many. -/
def Fews(l:List Oc):Prop:=∀o∈l,OcOk o
theorem mem_drop {α:Type}{o:α}{a:List α}{j:Nat}(h1:j<a.length):o∈a.drop j↔a[j]=o∨o∈a.drop (j+1):=by
  rw[List.drop_eq_getElem_cons h1,List.mem_cons];exact⟨fun h=>h.imp Eq.symm id,fun h=>h.imp Eq.symm id⟩
theorem l8In_ans {l:List Oc}{o:Oc}(hl:Fews l)(hn:l.length≤1048576)(ho:OcOk o):Ans n_spec_l8In s_spec_l8In (l,o,()) ((bo (o∈l),()),()):=by
  refine Gv.ans (Gv.of (fun k=>spec_l8In.F_eq (cl k) k l o) ?_);unfold spec_l8In.F spec_l8In.Fm;have key:∀(d j:Nat),l.length-j=d→Tq (d+1) (fun k q=>spec_l8In.L0 (cl k) k l o q (j:Int)) (· =((bo (o∈l.drop j),()),())):=by
    intro d
    induction d with
    | zero=>
      intro j hd;refine Tq.succ ?_;show Tq _ (fun k q=>spec_l8In.step0 (cl k) k ..) _
      unfold spec_l8In.step0;rw[bo_f (by rw[List.drop_of_length_le (by omega)];exact fun h=>by cases h)];exact Tq.bf (dnlt (by omega)) (Tq.ret rfl)
    | succ d ih=>
      intro j hd;have hj:j<l.length:=by omega
      have hA:=likeO_ans l[j] o (by have:=(hl _ (List.getElem_mem hj)).l;omega) (by have:=ho.l;omega);refine Tq.succ ?_;show Tq _ (fun k q=>spec_l8In.step0 (cl k) k ..) _
      unfold spec_l8In.step0;refine Tq.bt (dlt hj) (Tq.bt (dle0 _) (Tq.some (lg hj) (Tq.ba hA ?_)));rw[bo_congr (mem_drop hj)];by_cases c:l[j]=o
      . rw[bo_t (P:=l[j]=o∨o∈l.drop (j+1)) (.inl c)];exact Tq.bt (bo_t c) (Tq.ret rfl)
      . refine Tq.bf (bo_f c) ?_;rw[bo_congr (show(l[j]=o∨o∈l.drop (j+1))↔o∈l.drop (j+1)from⟨fun h=>h.resolve_left c,.inr⟩),ws hj (by omega)];exact ih (j+1) (by omega)
  exact Tq.diag (key _ 0 rfl)
/--The different ones,in their order,behind those that are there. -/
def ddF:List Oc→List Oc→List Oc
  |acc,[]=>acc
  |acc,o::l=>if o∈acc then ddF acc l else ddF (acc++[o]) l
theorem dd_len:∀(acc l:List Oc),(ddF acc l).length≤acc.length+l.length
  |acc,[]=>by unfold ddF;simp
  | acc,o::l=>by
    unfold ddF;split
    . have:=dd_len acc l;simp only[List.length_cons];omega
    . have:=dd_len (acc++[o]) l;simp only[List.length_append,List.length_cons,List.length_nil]at this⊢;omega
theorem dd_ok:∀{acc l:List Oc},Fews acc→Fews l→Fews (ddF acc l)
  |acc,[],h1,_=>h1
  | acc,o::l,h1,h2=>by
    have h3:Fews l:=fun x hx=>h2 x (List.mem_cons_of_mem _ hx)
    unfold ddF;split
    . exact dd_ok h1 h3
    . refine dd_ok (fun x hx=>?_) h3;rcases List.mem_append.1 hx with h|h
      . exact h1 x h
      . rw[List.mem_singleton.1 h];exact h2 _ List.mem_cons_self
theorem ti_oc:ti38.bytes=40:=rfl
theorem diff_ans {l:List Oc}(hl:Fews l)(hn:l.length≤1048576):Ans n_spec_l8Different s_spec_l8Different (l,()) ((ddF [] l,()),()):=by
  refine Gv.ans (Gv.of (fun k=>spec_l8Different.F_eq (cl k) k l) ?_);unfold spec_l8Different.F spec_l8Different.Fm;have key:∀(d j:Nat)(acc:List Oc),l.length-j=d→Fews acc→acc.length+d≤1048576→Tq (d+1) (fun k q=>spec_l8Different.L0 (cl k) k l q (j:Int) acc) (· =((ddF acc (l.drop j),()),())):=by
    intro d
    induction d with
    | zero=>
      intro j acc hd _ _;refine Tq.succ ?_;show Tq _ (fun k q=>spec_l8Different.step0 (cl k) k ..) _
      unfold spec_l8Different.step0;rw[List.drop_of_length_le (by omega)];exact Tq.bf (dnlt (by omega)) (Tq.ret rfl)
    | succ d ih=>
      intro j acc hd ha hb;have hj:j<l.length:=by omega
      have hI:=l8In_ans ha (by omega) (hl _ (List.getElem_mem hj));refine Tq.succ ?_;show Tq _ (fun k q=>spec_l8Different.step0 (cl k) k ..) _
      unfold spec_l8Different.step0;refine Tq.bt (dlt hj) (Tq.bt (dle0 _) (Tq.some (lg hj) (Tq.ba hI ?_)));have e:=List.drop_eq_getElem_cons hj;rw[e,ddF,ws hj (by omega)];by_cases c:l[j]∈acc
      . rw[if_pos c];exact Tq.bf (by show(!bo _)=false;rw[bo_t c];rfl) (ih (j+1) acc (by omega) ha (by omega))
      . rw[if_neg c];refine Tq.bt (by show(!bo _)=true;rw[bo_f c];rfl) (Tq.bt (dle0 _) (Tq.some (lg hj) (Tq.bt (apb (by rw[ti_oc];simp only[List.length_cons,List.length_nil];omega)) ?_)));refine ih (j+1) (acc++[l[j]]) (by omega) (fun x hx=>?_) (by simp;omega);rcases List.mem_append.1 hx with h|h
        . exact ha x h
        . rw[List.mem_singleton.1 h];exact hl _ (List.getElem_mem hj)
  exact Tq.diag (key _ 0 [] rfl (fun _ h=>by cases h) (by simp;omega))
/-! ### Keys-/
def key(o:Oc):ByteArray:=bytesOf (o.1.map IntKind.u8.wrap++[IntKind.u8.wrap o.2.1,IntKind.u8.wrap o.2.2.1])
theorem w8 {x:Int}(h0:0≤x)(h1:x≤255):IntKind.u8.wrap x=x:=by
  simp only[IntKind.wrap,IntKind.bits,IntKind.signed,Bool.false_and];rw[if_neg (by decide)];omega
theorem bytesOf_inj {a b:List Int}(ha:∀x∈a,0≤x∧x≤255)(hb:∀x∈b,0≤x∧x≤255)(h:bytesOf a=bytesOf b):a=b:=by
  have h1:(a.map fun n=>UInt8.ofNat n.toNat)=b.map fun n=>UInt8.ofNat n.toNat:=by
    have:=congrArg (fun x=>x.data.toList) h;simpa[bytesOf]using this
  have back:∀{l:List Int},(∀x∈l,0≤x∧x≤255)→(l.map fun n=>UInt8.ofNat n.toNat).map (fun u=>(u.toNat:Int))=l:=by
    intro l hl;rw[List.map_map];conv=>rhs;rw[←List.map_id l]
    refine List.map_congr_left fun x hx=>?_
    have:=hl x hx;show((UInt8.ofNat x.toNat).toNat:Int)=x
    rw[UInt8.toNat_ofNat'];omega
  rw[←back ha,h1,back hb]
theorem map_w8 {l:List Int}(h:∀x∈l,0≤x∧x≤255):l.map IntKind.u8.wrap=l:=by
  conv=>rhs;rw[←List.map_id l]
  exact List.map_congr_left fun x hx=>w8 (h x hx).1 (h x hx).2
theorem key_inj {a b:Oc}(ha:OcOk a)(hb:OcOk b)(h:key a=key b):a=b:=by
  obtain⟨l,e,c,⟨⟩⟩:=a;obtain⟨l',e',c',⟨⟩⟩:=b;unfold key at h;rw[map_w8 ha.vs,map_w8 hb.vs,w8 ha.e.1 ha.e.2,w8 ha.c.1 ha.c.2,w8 hb.e.1 hb.e.2,w8 hb.c.1 hb.c.2]at h;have hr:∀{o:Oc},OcOk o→∀x∈o.1++[o.2.1,o.2.2.1],0≤x∧x≤255:=fun ho x hx=>by
    rcases List.mem_append.1 hx with h|h
    . exact ho.vs x h
    . simp only[List.mem_cons,List.not_mem_nil,or_false]at h;rcases h with rfl|rfl
      . exact ho.e
      . exact ho.c
  obtain⟨h1,h2⟩:=List.append_inj' (bytesOf_inj (hr ha) (hr hb) h) rfl;simp only[List.cons.injEq,and_true]at h2;obtain⟨rfl,rfl⟩:=h2;have h1:l=l':=h1;rw[h1]
theorem keyOf_ans {o:Oc}(ho:OcOk o):Ans n_impl_keyOf s_impl_keyOf (o,()) ((key o,()),()):=by
  have hl:=ho.l;refine Gv.ans (Gv.of (fun k=>impl_keyOf.F_eq (cl k) k o) ?_);unfold impl_keyOf.F impl_keyOf.Fm;have t5:ti5.bytes=1:=rfl;have kk:∀(d j:Nat)(acc:List Int),o.1.length-j=d→acc.length+d≤400→Tq (d+1) (fun k q=>impl_keyOf.L0 (cl k) k o q (j:Int) acc) (· =((bytesOf (acc++((o.1.drop j).map IntKind.u8.wrap++[IntKind.u8.wrap o.2.1,IntKind.u8.wrap o.2.2.1])),()),())):=by
    intro d
    induction d with
    | zero=>
      intro j acc hd h2;refine Tq.succ ?_;show Tq _ (fun k q=>impl_keyOf.step0 (cl k) k ..) _
      unfold impl_keyOf.step0;rw[List.drop_of_length_le (by omega),List.map_nil,List.nil_append];exact Tq.bf (dnlt (by omega)) (Tq.bt (apb (by rw[t5];simp only[List.length_cons,List.length_nil];omega)) (Tq.ret rfl))
    | succ d ih=>
      intro j acc hd h2;have hj:j<o.1.length:=by omega
      refine Tq.succ ?_;show Tq _ (fun k q=>impl_keyOf.step0 (cl k) k ..) _
      unfold impl_keyOf.step0;refine Tq.bt (dlt hj) (Tq.bt (dle0 _) (Tq.some (lg hj) (Tq.bt (apb (by rw[t5];simp only[List.length_cons,List.length_nil];omega)) ?_)));rw[ws hj (by omega),List.drop_eq_getElem_cons hj,List.map_cons,List.cons_append];have:=ih (j+1) (acc++[IntKind.u8.wrap o.1[j]]) (by omega) (by simp;omega);rw[List.append_assoc acc,List.singleton_append]at this;exact this
  exact Tq.diag (kk _ 0 [] rfl (by simp;omega))
/-! ### Tallies-/
abbrev Tly:=Option (List (ByteArray×Int))×(List Oc×(List Int×Unit))
abbrev Tal:=List (Oc×Int)
def bump:Tal→Oc→Tal
  |[],o=>[(o,1)]
  |(a,n)::l,o=>if a=o then(a,n+1)::l else(a,n)::bump l o
def plc:List Oc→Oc→Nat→Option Int
  |[],_,_=>none
  |a::l,o,j=>if a=o then some (j:Int)else plc l o (j+1)
theorem plc_none:∀{l:List Oc}{o:Oc}{j:Nat},plc l o j=none↔o∉l
  |[],o,j=>by simp[plc]
  | a::l,o,j=>by
    unfold plc;by_cases c:a=o
    . rw[if_pos c];simp[c]
    . rw[if_neg c,plc_none];simp only[List.mem_cons,not_or];exact⟨fun h=>⟨fun e=>c e.symm,h⟩,fun h=>h.2⟩
theorem plc_some:∀{l:List Oc}{o:Oc}{j:Nat}{x:Int},plc l o j=some x→∃(i:Nat)(h:i<l.length),x=((j+i:Nat):Int)∧l[i]=o
  |[],o,j,x,h=>by cases h
  | a::l,o,j,x,h=>by
    unfold plc at h;by_cases c:a=o
    . rw[if_pos c]at h;cases h;exact⟨0,by simp,rfl,c⟩
    . rw[if_neg c]at h;obtain⟨i,hi,h1,h2⟩:=plc_some h;exact⟨i+1,by simpa using hi,by rw[h1];congr 1;omega,by simpa using h2⟩
theorem plc_app:∀{l:List Oc}{o o':Oc}{j:Nat},plc (l++[o]) o' j=match plc l o' j with|some i=>some i|none=>if o=o' then some ((j+l.length:Nat):Int)else none
  |[],o,o',j=>by simp only[List.nil_append,plc,List.length_nil,Nat.add_zero]
  | a::l,o,o',j=>by
    simp only[List.cons_append,plc];by_cases c:a=o'
    . simp only[if_pos c]
    . simp only[if_neg c];rw[plc_app];simp only[List.length_cons];rw[show j+1+l.length=j+(l.length+1) by omega]
theorem bump_fst:∀(L:Tal)(o:Oc),(bump L o).map (·.1)=if o∈L.map (·.1)then L.map (·.1)else L.map (·.1)++[o]
  |[],o=>by simp[bump]
  | (a,n)::l,o=>by
    unfold bump;by_cases c:a=o
    . rw[if_pos c,if_pos (by simp[c])];rfl
    . rw[if_neg c];simp only[List.map_cons,bump_fst l o];by_cases c2:o∈l.map (·.1)
      . rw[if_pos c2,if_pos (List.mem_cons_of_mem _ c2)]
      . rw[if_neg c2,if_neg (fun h=>by rcases List.mem_cons.1 h with h|h;exact c h.symm;exact c2 h)];rfl
theorem bump_new:∀(L:Tal)(o:Oc),o∉L.map (·.1)→bump L o=L++[(o,1)]
  |[],o,_=>rfl
  | (a,n)::l,o,h=>by
    simp only[List.map_cons,List.mem_cons,not_or]at h;unfold bump;rw[if_neg (fun e=>h.1 e.symm),bump_new l o h.2];rfl
theorem bump_old:∀(L:Tal)(o:Oc)(i j:Nat)(h:i<L.length),plc (L.map (·.1)) o j=some ((j+i:Nat):Int)→(bump L o).map (·.2)=(L.map (·.2)).set i (L[i].2+1)
  |[],o,i,j,h,_=>by cases h
  | (a,n)::l,o,i,j,h,e=>by
    simp only[List.map_cons,plc]at e;unfold bump;by_cases c:a=o
    . rw[if_pos c]at e;obtain rfl:i=0:=by have:=Option.some.inj e;omega
      rw[if_pos c];rfl
    . rw[if_neg c]at e;obtain⟨i',_,e1,_⟩:=plc_some e;obtain⟨i,rfl⟩:∃m,i=m+1:=⟨i-1,by omega⟩
      rw[if_neg c];simp only[List.map_cons,List.set_cons_succ,List.getElem_cons_succ];rw[bump_old l o i (j+1) (by simpa using h) (by rw[e];congr 2;omega)]
/--So many at most,none counted more often. -/
def Bd(L:Tal)(c:Nat):Prop:=L.length≤c∧∀x∈L,OcOk x.1∧0≤x.2∧x.2≤c
theorem Bd.bump:∀{L:Tal}{c:Nat}{o:Oc},Bd L c→OcOk o→Bd (Pf.bump L o) (c+1)
  |[],c,o,h,ho=>⟨by simp[Pf.bump],fun x hx=>by simp only[Pf.bump,List.mem_singleton]at hx;rw[hx];exact⟨ho,by dsimp only;omega,by dsimp only;omega⟩⟩
  | (a, n)::l,c,o,h,ho=>by
    have h0:=h.2 _ List.mem_cons_self;have h2:=h.1;simp only[List.length_cons]at h2;unfold Pf.bump;by_cases e:a=o
    . rw[if_pos e];refine⟨by simp;omega,fun x hx=>?_⟩;rcases List.mem_cons.1 hx with rfl|hx
      . exact⟨h0.1,by dsimp only at h0⊢;omega,by dsimp only at h0⊢;omega⟩
      . have:=h.2 x (List.mem_cons_of_mem _ hx);exact⟨this.1,by omega,by omega⟩
    . rw[if_neg e];have g:Bd (Pf.bump l o) (c+1):=Bd.bump (L:=l) ⟨by omega,fun x hx=>h.2 x (List.mem_cons_of_mem _ hx)⟩ ho;have gl:(Pf.bump l o).length≤l.length+1:=by
        by_cases m:o∈l.map (·.1)
        . have:=congrArg List.length (bump_fst l o);rw[if_pos m]at this;simp only[List.length_map]at this;omega
        . rw[bump_new l o m];simp
      refine⟨by simp;omega,fun x hx=>?_⟩;rcases List.mem_cons.1 hx with rfl|hx
      . exact⟨h0.1,by dsimp only at h0⊢;omega,by dsimp only at h0⊢;omega⟩
      . exact g.2 x hx
theorem eqS {x y:ByteArray}:eqV .str x y=true↔x=y:=⟨fun h=>keyV_eq (t:=.str) rfl h,fun h=>by subst h;show(x==x)=true;rw[beq_toListBytes];exact beq_self_eq_true _⟩
theorem mfind_mput {x y:ByteArray}{v:Int}:∀{es:List (ByteArray×Int)},mfind .str es x=none→mfind .str (mput .str es x v) y=if x=y then some v else mfind .str es y
  | [],_=>by
    show(bif eqV .str y x then some v else none)=_
    by_cases c:x=y
    . rw[if_pos c,eqS.2 c.symm];rfl
    . rw[if_neg c];cases e:eqV .str y x
      . rfl
      . exact absurd (eqS.1 e).symm c
  | (a,b)::l,h=>by
    have h:(bif eqV .str x a then some b else mfind .str l x)=none:=h;cases e:eqV .str x a
    . rw[e]at h;show mfind .str (bif eqV .str x a then(x,v)::l else(a,b)::mput .str l x v) y=_
      rw[e];show(bif eqV .str y a then some b else mfind .str (mput .str l x v) y)=if x=y then some v else(bif eqV .str y a then some b else mfind .str l y)
      rw[mfind_mput h];by_cases c:x=y
      . subst c;rw[e,if_pos rfl,if_pos rfl];rfl
      . rw[if_neg c,if_neg c]
    . rw[e]at h;cases h
structure TI (st:Tly) (L:Tal):Prop where
  list:st.2.1=L.map (·.1)
  sizes:st.2.2.1=L.map (·.2)
  nn:st.1=none→L=[]
  find:∀o,OcOk o→mfind .str (st.1.getD []) (key o)=plc (L.map (·.1)) o 0
theorem TI.nil:TI (none,[],[],()) []:=⟨rfl,rfl,fun _=>rfl,fun _ _=>rfl⟩
theorem find_new {es:List (ByteArray×Int)}{l:List Oc}{o o':Oc}(ho:OcOk o)(ho':OcOk o')(hf:∀o,OcOk o→mfind .str es (key o)=plc l o 0)(h:plc l o 0=none):mfind .str (mput .str es (key o) (l.length:Int)) (key o')=plc (l++[o]) o' 0:=by
  rw[mfind_mput ((hf o ho).trans h),plc_app,hf o' ho'];by_cases c:key o=key o'
  . have e:=key_inj ho ho' c;subst e;rw[if_pos rfl,h];show _=if o=o then some ((0+l.length:Nat):Int)else Option.none
    rw[if_pos rfl,Nat.zero_add]
  . rw[if_neg c];cases plc l o' 0 with
    |some i=>rfl
    | none=>
      show Option.none=if o=o' then _ else _
      rw[if_neg (fun e=>c (by rw[e]))]
theorem set_app {α:Type}{l:List α}{a b:α}:(l++[a]).set l.length b=l++[b]:=by
  rw[List.set_append_right _ _ (Nat.le_refl _),Nat.sub_self];rfl
theorem add_gv {st:Tly}{L:Tal}{c:Nat}(h:TI st L)(hb:Bd L c)(hc:c≤1048576){o:Oc}(ho:OcOk o):Gv n_impl_tally_add s_impl_tally_add (st,o,()) (fun(r:Unit×(Tly×Unit))=>TI r.2.1 (bump L o)):=by
  obtain⟨pl,li,si,⟨⟩⟩:=st;obtain⟨h1,h2,h3,h4⟩:=h;dsimp only at h1 h2 h3 h4;subst h1 h2;have hk:=keyOf_ans ho;have hl:=hb.1;refine Gv.of (fun k=>impl_tally_add.F_eq (cl k) k _ _) ?_;unfold impl_tally_add.F impl_tally_add.Fm;have new:∀{es:List (ByteArray×Int)},(∀o,OcOk o→mfind .str es (key o)=plc (L.map (·.1)) o 0)→plc (L.map (·.1)) o 0=none→TI (some (mput .str es (key o) ((L.map (·.1)).length:Int)),L.map (·.1)++[o],L.map (·.2)++[1],()) (bump L o):=by
    intro es hf hn;have e:=bump_new L o (plc_none.1 hn);rw[e];refine⟨by simp,by simp,fun h=>(by cases h),fun o' ho'=>?_⟩;have:=find_new ho ho' hf hn;rw[List.map_append];exact this
  have ll:(L.map (·.1)).length=L.length:=List.length_map _;have l2:(L.map (·.2)).length=L.length:=List.length_map _;have hw:∀i(h:i<L.length),IntKind.i64.wrap (L[i].2+1)=L[i].2+1:=fun i h=>by
    have:=hb.2 _ (List.getElem_mem h);exact w64 (by omega) (by omega)
  have w1:IntKind.i64.wrap (0+1)=1:=by decide
  have ap1:decide (((L.map (·.1)).length+[o].length)*ti38.bytes≤140737488355328)=true:=apb (by rw[ti_oc,ll];simp only[List.length_cons,List.length_nil];omega);have ap2:decide (((L.map (·.2)).length+[(0:Int)].length)*ti2.bytes≤140737488355328)=true:=apb (by rw[by2,l2];simp only[List.length_cons,List.length_nil];omega);have ix:(decide ((0:Int)≤((L.map (·.1)).length:Int))&&decide ((((L.map (·.1)).length:Int)).toNat<(L.map (·.2)++[(0:Int)]).length))=true:=idx_ok (by rw[ll,List.length_append,l2];exact Nat.lt_succ_self _);have gx:lget (L.map (·.2)++[(0:Int)]) (((L.map (·.1)).length:Int)).toNat=some 0:=by
    rw[Int.toNat_natCast,ll,←l2];exact(List.getElem?_eq_getElem (by rw[List.length_append];exact Nat.lt_succ_self _)).trans (congrArg some (by rw[List.getElem_append_right (Nat.le_refl _)];simp))
  cases pl with
  | none=>
    have e0:L=[]:=h3 rfl;refine Tq.bt rfl (Tq.ba hk ?_);have hn:plc (L.map (·.1)) o 0=none:=by rw[e0];rfl
    refine Tq.bt rfl (Tq.bt ap1 (Tq.bt ap2 (Tq.bt ix (Tq.some gx (Tq.bt ix (Tq.some gx ?_))))));refine Tq.ret ?_;dsimp only;rw[w1,Int.toNat_natCast];have:=new (es:=[]) (fun o' ho'=>by rw[e0];rfl) hn;rw[ll]at this⊢;rw[←l2,set_app,l2];exact this
  | some es=>
    refine Tq.bf rfl (Tq.ba hk ?_);have h4:∀o,OcOk o→mfind .str es (key o)=plc (L.map (·.1)) o 0:=h4
    cases hpl:plc (L.map (·.1)) o 0 with
    | none=>
      have hf:mfind .str ((some es).getD []) (key o)=none:=(h4 o ho).trans hpl;refine Tq.bt (by show(!(mfind .str _ (key o)).isSome)=true;rw[hf];rfl) (Tq.some rfl (Tq.bt ap1 (Tq.bt ap2 (Tq.bt ix (Tq.some gx (Tq.bt ix (Tq.some gx ?_)))))));refine Tq.ret ?_;dsimp only;rw[w1,Int.toNat_natCast];have:=new h4 hpl;rw[ll]at this⊢;rw[←l2,set_app,l2];exact this
    | some x=>
      have hf:mfind .str ((some es).getD []) (key o)=some x:=(h4 o ho).trans hpl;obtain⟨i,hi,rfl,hio⟩:=plc_some hpl;rw[Nat.zero_add]at hf hpl;have hi2:i<L.length:=by rw[ll]at hi;exact hi
      have hi3:i<(L.map (·.2)).length:=by rw[l2];exact hi2
      have e:=bump_old L o i 0 hi2 (by rw[hpl,Nat.zero_add]);have ix2:(decide ((0:Int)≤(mfind .str ((some es).getD []) (key o)).getD (Int.ofNat (nat_lit 0)))&&decide (((mfind .str ((some es).getD []) (key o)).getD (Int.ofNat (nat_lit 0))).toNat<(L.map (·.2)).length))=true:=by rw[hf];exact idx_ok hi3
      have gx2:lget (L.map (·.2)) ((mfind .str ((some es).getD []) (key o)).getD (Int.ofNat (nat_lit 0))).toNat=some L[i].2:=by
        rw[hf];exact(lg hi3).trans (congrArg some (List.getElem_map _))
      refine Tq.bf (by show(!(mfind .str _ (key o)).isSome)=false;rw[hf];rfl) (Tq.bt ix2 (Tq.some gx2 (Tq.bt ix2 (Tq.some gx2 ?_))));refine Tq.ret ?_;dsimp only;rw[hw i hi2];have hm:o∈L.map (·.1):=hio▸List.getElem_mem hi;have e2:=bump_fst L o;rw[if_pos hm]at e2;refine⟨e2.symm,?_,fun h=>(by cases h),fun o' ho'=>by rw[e2];exact h4 o' ho'⟩;rw[e];show(L.map (·.2)).set _ _=_
      have:((mfind .str ((some es).getD []) (key o)).getD (Int.ofNat (nat_lit 0))).toNat=i:=by rw[hf];exact Int.toNat_natCast i
      exact congrArg (fun n=>(L.map (·.2)).set n (L[i].2+1)) this
/--What is counted,one after the other. -/
def tal(L:Tal)(l:List Oc):Tal:=l.foldl bump L
theorem tal_fst:∀(L:Tal)(l:List Oc),(tal L l).map (·.1)=ddF (L.map (·.1)) l
  |L,[]=>rfl
  | L,o::l=>by
    show(tal (bump L o) l).map (·.1)=_
    rw[tal_fst,bump_fst,ddF];split<;>rfl
theorem tal_bd:∀{L:Tal}{l:List Oc}{c:Nat},Bd L c→Fews l→Bd (tal L l) (c+l.length)
  |L,[],c,h,_=>h
  | L,o::l,c,h,hl=>by
    have:=tal_bd (h.bump (hl o List.mem_cons_self)) (l:=l) fun x hx=>hl x (List.mem_cons_of_mem _ hx)
    rw[show c+(o::l).length=c+1+l.length by simp only[List.length_cons];omega];exact this
end Go.Proofs.YtjgfofcgmcnblaaGreat.Pf
