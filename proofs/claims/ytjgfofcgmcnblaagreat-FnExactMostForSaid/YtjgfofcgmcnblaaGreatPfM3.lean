/- Printed texts of functions, and what they answer: part 3. No condition but those of each. -/
import Derived.Test.YtjgfofcgmcnblaaGreatPfM2
import Derived.KernelRfl
set_option linter.all false
set_option maxHeartbeats 2000000
namespace Go.Proofs.YtjgfofcgmcnblaaGreat.Pf
open Go Go.Pv
theorem drop_eq {α:Type}{a b:List α}{j:Nat}(h1:j<a.length)(h2:j<b.length):a.drop j=b.drop j↔a[j]=b[j]∧a.drop (j+1)=b.drop (j+1):=by
  rw[List.drop_eq_getElem_cons h1,List.drop_eq_getElem_cons h2,List.cons.injEq]
theorem likeO_ans(a b:Oc)(h1:a.1.length≤1048576)(h2:b.1.length≤1048576):Ans n_spec_LikeOutcomes s_spec_LikeOutcomes (a,b,()) ((bo (a=b),()),()):=by
  obtain⟨l,e,c,⟨⟩⟩:=a;obtain⟨l',e',c',⟨⟩⟩:=b;refine Gv.ans (Gv.of (fun k=>spec_LikeOutcomes.F_eq (cl k) k (l,e,c,()) (l',e',c',())) ?_);unfold spec_LikeOutcomes.F spec_LikeOutcomes.Fm;dsimp only at h1 h2⊢;have e0:((l,e,c,()):Oc)=(l',e',c',())↔(l.length=l'.length∧l=l')∧e=e'∧c=c':=by
    constructor
    . intro h;simp only[Prod.mk.injEq,and_true]at h;exact⟨⟨congrArg _ h.1,h.1⟩,h.2.1,h.2.2⟩
    . rintro⟨⟨_,rfl⟩,rfl,rfl⟩;rfl
  rw[bo_congr e0];by_cases c1:l.length=l'.length
  case neg=>rw[bo_f (fun e=>c1 e.1.1)];exact Tq.bt (bne_iff_ne.2 (by omega)) (Tq.ret rfl)
  refine Tq.bf (bne_eq_false_iff_eq.2 (by omega)) ?_;by_cases c2:e=e'
  case neg=>rw[bo_f (fun e=>c2 e.2.1)];exact Tq.bt (bne_iff_ne.2 c2) (Tq.ret rfl)
  refine Tq.bf (bne_eq_false_iff_eq.2 c2) ?_;by_cases c3:c=c'
  case neg=>rw[bo_f (fun e=>c3 e.2.2)];exact Tq.bt (bne_iff_ne.2 c3) (Tq.ret rfl)
  refine Tq.bf (bne_eq_false_iff_eq.2 c3) ?_;rw[bo_congr (show((l.length=l'.length∧l=l')∧e=e'∧c=c')↔l.drop 0=l'.drop 0 from⟨fun h=>h.1.2,fun h=>⟨⟨c1,h⟩,c2,c3⟩⟩)];have key:∀(d j:Nat),l.length-j=d→Tq (d+1) (fun k q=>spec_LikeOutcomes.L0 (cl k) k (l,e,c,()) (l',e',c',()) q (j:Int)) (· =((bo (l.drop j=l'.drop j),()),())):=by
    intro d
    induction d with
    | zero=>
      intro j hd;refine Tq.succ ?_;show Tq _ (fun k q=>spec_LikeOutcomes.step0 (cl k) k ..) _
      unfold spec_LikeOutcomes.step0;rw[bo_t (by rw[List.drop_of_length_le (by omega),List.drop_of_length_le (by omega)])];exact Tq.bf (dnlt (by dsimp only;omega)) (Tq.ret rfl)
    | succ d ih=>
      intro j hd;have hj:j<l.length:=by omega
      have hj':j<l'.length:=by omega
      refine Tq.succ ?_;show Tq _ (fun k q=>spec_LikeOutcomes.step0 (cl k) k ..) _
      unfold spec_LikeOutcomes.step0;refine Tq.bt (dlt hj) (Tq.bt (dle0 _) (Tq.some (lg hj) (Tq.bt (dle0 _) (Tq.some (lg hj') ?_))));rw[bo_congr (drop_eq hj hj')];by_cases c4:l[j]=l'[j]
      . refine Tq.bf (bne_eq_false_iff_eq.2 c4) ?_;rw[bo_congr (and_iff_right c4),ws hj (by omega)];exact ih (j+1) (by omega)
      . rw[bo_f (fun e=>c4 e.1)];exact Tq.bt (bne_iff_ne.2 c4) (Tq.ret rfl)
  exact Tq.diag (key _ 0 rfl)
def Fews(l:List Oc):Prop:=∀o∈l,OcOk o
theorem mem_drop {α:Type}{o:α}{a:List α}{j:Nat}(h1:j<a.length):o∈a.drop j↔a[j]=o∨o∈a.drop (j+1):=by
  rw[List.drop_eq_getElem_cons h1,List.mem_cons];exact⟨fun h=>h.imp Eq.symm id,fun h=>h.imp Eq.symm id⟩
theorem l8In_ans {l:List Oc}{o:Oc}(hl:Fews l)(hn:l.length≤1048576)(ho:OcOk o):Ans n_spec_l8In s_spec_l8In (l,o,()) ((bo (o∈l),()),()):=by
  refine Gv.ans (Gv.of (fun k=>spec_l8In.F_eq (cl k) k l o) ?_);unfold spec_l8In.F spec_l8In.Fm;have key:∀(d j:Nat),l.length-j=d→Tq (d+1) (fun k q=>spec_l8In.L0 (cl k) k l o q (j:Int)) (· =((bo (o∈l.drop j),()),())):=by
    intro d
    induction d with
    | zero=>
      intro j hd;refine Tq.succ ?_;show Tq _ (fun k q=>spec_l8In.step0 (cl k) k ..) _
      unfold spec_l8In.step0;rw[bo_f (by rw[List.drop_of_length_le (by omega)];exact fun h=>by cases h)];exact Tq.bf (dnlt (by omega)) (Tq.ret rfl)
    | succ d ih=>
      intro j hd;have hj:j<l.length:=by omega
      have hA:=likeO_ans l[j] o (by have:=(hl _ (List.getElem_mem hj)).l;omega) (by have:=ho.l;omega);refine Tq.succ ?_;show Tq _ (fun k q=>spec_l8In.step0 (cl k) k ..) _
      unfold spec_l8In.step0;refine Tq.bt (dlt hj) (Tq.bt (dle0 _) (Tq.some (lg hj) (Tq.ba hA ?_)));rw[bo_congr (mem_drop hj)];by_cases c:l[j]=o
      . rw[bo_t (P:=l[j]=o∨o∈l.drop (j+1)) (.inl c)];exact Tq.bt (bo_t c) (Tq.ret rfl)
      . refine Tq.bf (bo_f c) ?_;rw[bo_congr (show(l[j]=o∨o∈l.drop (j+1))↔o∈l.drop (j+1)from⟨fun h=>h.resolve_left c,.inr⟩),ws hj (by omega)];exact ih (j+1) (by omega)
  exact Tq.diag (key _ 0 rfl)
def ddF:List Oc→List Oc→List Oc
  |acc,[]=>acc
  |acc,o::l=>if o∈acc then ddF acc l else ddF (acc++[o]) l
theorem dd_len:∀(acc l:List Oc),(ddF acc l).length≤acc.length+l.length
  |acc,[]=>by unfold ddF;simp
  | acc,o::l=>by
    unfold ddF;split
    . have:=dd_len acc l;simp only[List.length_cons];omega
    . have:=dd_len (acc++[o]) l;simp only[List.length_append,List.length_cons,List.length_nil]at this⊢;omega
theorem ti_oc:ti38.bytes=40:=rfl
theorem diff_ans {l:List Oc}(hl:Fews l)(hn:l.length≤1048576):Ans n_spec_l8Different s_spec_l8Different (l,()) ((ddF [] l,()),()):=by
  refine Gv.ans (Gv.of (fun k=>spec_l8Different.F_eq (cl k) k l) ?_);unfold spec_l8Different.F spec_l8Different.Fm;have key:∀(d j:Nat)(acc:List Oc),l.length-j=d→Fews acc→acc.length+d≤1048576→Tq (d+1) (fun k q=>spec_l8Different.L0 (cl k) k l q (j:Int) acc) (· =((ddF acc (l.drop j),()),())):=by
    intro d
    induction d with
    | zero=>
      intro j acc hd _ _;refine Tq.succ ?_;show Tq _ (fun k q=>spec_l8Different.step0 (cl k) k ..) _
      unfold spec_l8Different.step0;rw[List.drop_of_length_le (by omega)];exact Tq.bf (dnlt (by omega)) (Tq.ret rfl)
    | succ d ih=>
      intro j acc hd ha hb;have hj:j<l.length:=by omega
      have hI:=l8In_ans ha (by omega) (hl _ (List.getElem_mem hj));refine Tq.succ ?_;show Tq _ (fun k q=>spec_l8Different.step0 (cl k) k ..) _
      unfold spec_l8Different.step0;refine Tq.bt (dlt hj) (Tq.bt (dle0 _) (Tq.some (lg hj) (Tq.ba hI ?_)));have e:=List.drop_eq_getElem_cons hj;rw[e,ddF,ws hj (by omega)];by_cases c:l[j]∈acc
      . rw[if_pos c];exact Tq.bf (by show(!bo _)=false;rw[bo_t c];rfl) (ih (j+1) acc (by omega) ha (by omega))
      . rw[if_neg c];refine Tq.bt (by show(!bo _)=true;rw[bo_f c];rfl) (Tq.bt (dle0 _) (Tq.some (lg hj) (Tq.bt (apb (by rw[ti_oc];simp only[List.length_cons,List.length_nil];omega)) ?_)));refine ih (j+1) (acc++[l[j]]) (by omega) (fun x hx=>?_) (by simp;omega);rcases List.mem_append.1 hx with h|h
        . exact ha x h
        . rw[List.mem_singleton.1 h];exact hl _ (List.getElem_mem hj)
  exact Tq.diag (key _ 0 [] rfl (fun _ h=>by cases h) (by simp;omega))
def key(o:Oc):ByteArray:=bytesOf (o.1.map IntKind.u8.wrap++[IntKind.u8.wrap o.2.1,IntKind.u8.wrap o.2.2.1])
theorem w8 {x:Int}(h0:0≤x)(h1:x≤255):IntKind.u8.wrap x=x:=by
  simp only[IntKind.wrap,IntKind.bits,IntKind.signed,Bool.false_and];rw[if_neg (by decide)];omega
theorem bytesOf_inj {a b:List Int}(ha:∀x∈a,0≤x∧x≤255)(hb:∀x∈b,0≤x∧x≤255)(h:bytesOf a=bytesOf b):a=b:=by
  have h1:(a.map fun n=>UInt8.ofNat n.toNat)=b.map fun n=>UInt8.ofNat n.toNat:=by
    have:=congrArg (fun x=>x.data.toList) h;simpa[bytesOf]using this
  have back:∀{l:List Int},(∀x∈l,0≤x∧x≤255)→(l.map fun n=>UInt8.ofNat n.toNat).map (fun u=>(u.toNat:Int))=l:=by
    intro l hl;rw[List.map_map];conv=>rhs;rw[←List.map_id l]
    refine List.map_congr_left fun x hx=>?_
    have:=hl x hx;show((UInt8.ofNat x.toNat).toNat:Int)=x
    rw[UInt8.toNat_ofNat'];omega
  rw[←back ha,h1,back hb]
theorem map_w8 {l:List Int}(h:∀x∈l,0≤x∧x≤255):l.map IntKind.u8.wrap=l:=by
  conv=>rhs;rw[←List.map_id l]
  exact List.map_congr_left fun x hx=>w8 (h x hx).1 (h x hx).2
theorem key_inj {a b:Oc}(ha:OcOk a)(hb:OcOk b)(h:key a=key b):a=b:=by
  obtain⟨l,e,c,⟨⟩⟩:=a;obtain⟨l',e',c',⟨⟩⟩:=b;unfold key at h;rw[map_w8 ha.vs,map_w8 hb.vs,w8 ha.e.1 ha.e.2,w8 ha.c.1 ha.c.2,w8 hb.e.1 hb.e.2,w8 hb.c.1 hb.c.2]at h;have hr:∀{o:Oc},OcOk o→∀x∈o.1++[o.2.1,o.2.2.1],0≤x∧x≤255:=fun ho x hx=>by
    rcases List.mem_append.1 hx with h|h
    . exact ho.vs x h
    . simp only[List.mem_cons,List.not_mem_nil,or_false]at h;rcases h with rfl|rfl
      . exact ho.e
      . exact ho.c
  obtain⟨h1,h2⟩:=List.append_inj' (bytesOf_inj (hr ha) (hr hb) h) rfl;simp only[List.cons.injEq,and_true]at h2;obtain⟨rfl,rfl⟩:=h2;have h1:l=l':=h1;rw[h1]
theorem keyOf_ans {o:Oc}(ho:OcOk o):Ans n_impl_keyOf s_impl_keyOf (o,()) ((key o,()),()):=by
  have hl:=ho.l;refine Gv.ans (Gv.of (fun k=>impl_keyOf.F_eq (cl k) k o) ?_);unfold impl_keyOf.F impl_keyOf.Fm;have t5:ti5.bytes=1:=rfl;have kk:∀(d j:Nat)(acc:List Int),o.1.length-j=d→acc.length+d≤400→Tq (d+1) (fun k q=>impl_keyOf.L0 (cl k) k o q (j:Int) acc) (· =((bytesOf (acc++((o.1.drop j).map IntKind.u8.wrap++[IntKind.u8.wrap o.2.1,IntKind.u8.wrap o.2.2.1])),()),())):=by
    intro d
    induction d with
    | zero=>
      intro j acc hd h2;refine Tq.succ ?_;show Tq _ (fun k q=>impl_keyOf.step0 (cl k) k ..) _
      unfold impl_keyOf.step0;rw[List.drop_of_length_le (by omega),List.map_nil,List.nil_append];exact Tq.bf (dnlt (by omega)) (Tq.bt (apb (by rw[t5];simp only[List.length_cons,List.length_nil];omega)) (Tq.ret rfl))
    | succ d ih=>
      intro j acc hd h2;have hj:j<o.1.length:=by omega
      refine Tq.succ ?_;show Tq _ (fun k q=>impl_keyOf.step0 (cl k) k ..) _
      unfold impl_keyOf.step0;refine Tq.bt (dlt hj) (Tq.bt (dle0 _) (Tq.some (lg hj) (Tq.bt (apb (by rw[t5];simp only[List.length_cons,List.length_nil];omega)) ?_)));rw[ws hj (by omega),List.drop_eq_getElem_cons hj,List.map_cons,List.cons_append];have:=ih (j+1) (acc++[IntKind.u8.wrap o.1[j]]) (by omega) (by simp;omega);rw[List.append_assoc acc,List.singleton_append]at this;exact this
  exact Tq.diag (kk _ 0 [] rfl (by simp;omega))
abbrev Tly:=Option (List (ByteArray×Int))×(List Oc×(List Int×Unit))
abbrev Tal:=List (Oc×Int)
def bump:Tal→Oc→Tal
  |[],o=>[(o,1)]
  |(a,n)::l,o=>if a=o then(a,n+1)::l else(a,n)::bump l o
def plc:List Oc→Oc→Nat→Option Int
  |[],_,_=>none
  |a::l,o,j=>if a=o then some (j:Int)else plc l o (j+1)
theorem plc_none:∀{l:List Oc}{o:Oc}{j:Nat},plc l o j=none↔o∉l
  |[],o,j=>by simp[plc]
  | a::l,o,j=>by
    unfold plc;by_cases c:a=o
    . rw[if_pos c];simp[c]
    . rw[if_neg c,plc_none];simp only[List.mem_cons,not_or];exact⟨fun h=>⟨fun e=>c e.symm,h⟩,fun h=>h.2⟩
theorem plc_some:∀{l:List Oc}{o:Oc}{j:Nat}{x:Int},plc l o j=some x→∃(i:Nat)(h:i<l.length),x=((j+i:Nat):Int)∧l[i]=o
  |[],o,j,x,h=>by cases h
  | a::l,o,j,x,h=>by
    unfold plc at h;by_cases c:a=o
    . rw[if_pos c]at h;cases h;exact⟨0,by simp,rfl,c⟩
    . rw[if_neg c]at h;obtain⟨i,hi,h1,h2⟩:=plc_some h;exact⟨i+1,by simpa using hi,by rw[h1];congr 1;omega,by simpa using h2⟩
theorem plc_app:∀{l:List Oc}{o o':Oc}{j:Nat},plc (l++[o]) o' j=match plc l o' j with|some i=>some i|none=>if o=o' then some ((j+l.length:Nat):Int)else none
  |[],o,o',j=>by simp only[List.nil_append,plc,List.length_nil,Nat.add_zero]
  | a::l,o,o',j=>by
    simp only[List.cons_append,plc];by_cases c:a=o'
    . simp only[if_pos c]
    . simp only[if_neg c];rw[plc_app];simp only[List.length_cons];rw[show j+1+l.length=j+(l.length+1) by omega]
theorem bump_fst:∀(L:Tal)(o:Oc),(bump L o).map (·.1)=if o∈L.map (·.1)then L.map (·.1)else L.map (·.1)++[o]
  |[],o=>by simp[bump]
  | (a,n)::l,o=>by
    unfold bump;by_cases c:a=o
    . rw[if_pos c,if_pos (by simp[c])];rfl
    . rw[if_neg c];simp only[List.map_cons,bump_fst l o];by_cases c2:o∈l.map (·.1)
      . rw[if_pos c2,if_pos (List.mem_cons_of_mem _ c2)]
      . rw[if_neg c2,if_neg (fun h=>by rcases List.mem_cons.1 h with h|h;exact c h.symm;exact c2 h)];rfl
theorem bump_new:∀(L:Tal)(o:Oc),o∉L.map (·.1)→bump L o=L++[(o,1)]
  |[],o,_=>rfl
  | (a,n)::l,o,h=>by
    simp only[List.map_cons,List.mem_cons,not_or]at h;unfold bump;rw[if_neg (fun e=>h.1 e.symm),bump_new l o h.2];rfl
theorem bump_old:∀(L:Tal)(o:Oc)(i j:Nat)(h:i<L.length),plc (L.map (·.1)) o j=some ((j+i:Nat):Int)→(bump L o).map (·.2)=(L.map (·.2)).set i (L[i].2+1)
  |[],o,i,j,h,_=>by cases h
  | (a,n)::l,o,i,j,h,e=>by
    simp only[List.map_cons,plc]at e;unfold bump;by_cases c:a=o
    . rw[if_pos c]at e;obtain rfl:i=0:=by have:=Option.some.inj e;omega
      rw[if_pos c];rfl
    . rw[if_neg c]at e;obtain⟨i',_,e1,_⟩:=plc_some e;obtain⟨i,rfl⟩:∃m,i=m+1:=⟨i-1,by omega⟩
      rw[if_neg c];simp only[List.map_cons,List.set_cons_succ,List.getElem_cons_succ];rw[bump_old l o i (j+1) (by simpa using h) (by rw[e];congr 2;omega)]
def Bd(L:Tal)(c:Nat):Prop:=L.length≤c∧∀x∈L,OcOk x.1∧0≤x.2∧x.2≤c
theorem Bd.bump:∀{L:Tal}{c:Nat}{o:Oc},Bd L c→OcOk o→Bd (Pf.bump L o) (c+1)
  |[],c,o,h,ho=>⟨by simp[Pf.bump],fun x hx=>by simp only[Pf.bump,List.mem_singleton]at hx;rw[hx];exact⟨ho,by dsimp only;omega,by dsimp only;omega⟩⟩
  | (a, n)::l,c,o,h,ho=>by
    have h0:=h.2 _ List.mem_cons_self;have h2:=h.1;simp only[List.length_cons]at h2;unfold Pf.bump;by_cases e:a=o
    . rw[if_pos e];refine⟨by simp;omega,fun x hx=>?_⟩;rcases List.mem_cons.1 hx with rfl|hx
      . exact⟨h0.1,by dsimp only at h0⊢;omega,by dsimp only at h0⊢;omega⟩
      . have:=h.2 x (List.mem_cons_of_mem _ hx);exact⟨this.1,by omega,by omega⟩
    . rw[if_neg e];have g:Bd (Pf.bump l o) (c+1):=Bd.bump (L:=l) ⟨by omega,fun x hx=>h.2 x (List.mem_cons_of_mem _ hx)⟩ ho;have gl:(Pf.bump l o).length≤l.length+1:=by
        by_cases m:o∈l.map (·.1)
        . have:=congrArg List.length (bump_fst l o);rw[if_pos m]at this;simp only[List.length_map]at this;omega
        . rw[bump_new l o m];simp
      refine⟨by simp;omega,fun x hx=>?_⟩;rcases List.mem_cons.1 hx with rfl|hx
      . exact⟨h0.1,by dsimp only at h0⊢;omega,by dsimp only at h0⊢;omega⟩
      . exact g.2 x hx
theorem eqS {x y:ByteArray}:eqV .str x y=true↔x=y:=⟨fun h=>keyV_eq (t:=.str) rfl h,fun h=>by subst h;show(x==x)=true;rw[beq_toListBytes];exact beq_self_eq_true _⟩
theorem mfind_mput {x y:ByteArray}{v:Int}:∀{es:List (ByteArray×Int)},mfind .str es x=none→mfind .str (mput .str es x v) y=if x=y then some v else mfind .str es y
  | [],_=>by
    show(bif eqV .str y x then some v else none)=_
    by_cases c:x=y
    . rw[if_pos c,eqS.2 c.symm];rfl
    . rw[if_neg c];cases e:eqV .str y x
      . rfl
      . exact absurd (eqS.1 e).symm c
  | (a,b)::l,h=>by
    have h:(bif eqV .str x a then some b else mfind .str l x)=none:=h;cases e:eqV .str x a
    . rw[e]at h;show mfind .str (bif eqV .str x a then(x,v)::l else(a,b)::mput .str l x v) y=_
      rw[e];show(bif eqV .str y a then some b else mfind .str (mput .str l x v) y)=if x=y then some v else(bif eqV .str y a then some b else mfind .str l y)
      rw[mfind_mput h];by_cases c:x=y
      . subst c;rw[e,if_pos rfl,if_pos rfl];rfl
      . rw[if_neg c,if_neg c]
    . rw[e]at h;cases h
structure TlI (st:Tly) (L:Tal):Prop where
  list:st.2.1=L.map (·.1)
  sizes:st.2.2.1=L.map (·.2)
  nn:st.1=none→L=[]
  find:∀o,OcOk o→mfind .str (st.1.getD []) (key o)=plc (L.map (·.1)) o 0
theorem TlI.nil:TlI (none,[],[],()) []:=⟨rfl,rfl,fun _=>rfl,fun _ _=>rfl⟩
theorem find_new {es:List (ByteArray×Int)}{l:List Oc}{o o':Oc}(ho:OcOk o)(ho':OcOk o')(hf:∀o,OcOk o→mfind .str es (key o)=plc l o 0)(h:plc l o 0=none):mfind .str (mput .str es (key o) (l.length:Int)) (key o')=plc (l++[o]) o' 0:=by
  rw[mfind_mput ((hf o ho).trans h),plc_app,hf o' ho'];by_cases c:key o=key o'
  . have e:=key_inj ho ho' c;subst e;rw[if_pos rfl,h];show _=if o=o then some ((0+l.length:Nat):Int)else Option.none
    rw[if_pos rfl,Nat.zero_add]
  . rw[if_neg c];cases plc l o' 0 with
    |some i=>rfl
    | none=>
      show Option.none=if o=o' then _ else _
      rw[if_neg (fun e=>c (by rw[e]))]
theorem set_app {α:Type}{l:List α}{a b:α}:(l++[a]).set l.length b=l++[b]:=by
  rw[List.set_append_right _ _ (Nat.le_refl _),Nat.sub_self];rfl
theorem add_gv {st:Tly}{L:Tal}{c:Nat}(h:TlI st L)(hb:Bd L c)(hc:c≤1048576){o:Oc}(ho:OcOk o):Gv n_impl_tally_add s_impl_tally_add (st,o,()) (fun(r:Unit×(Tly×Unit))=>TlI r.2.1 (bump L o)):=by
  obtain⟨pl,li,si,⟨⟩⟩:=st;obtain⟨h1,h2,h3,h4⟩:=h;dsimp only at h1 h2 h3 h4;subst h1 h2;have hk:=keyOf_ans ho;have hl:=hb.1;refine Gv.of (fun k=>impl_tally_add.F_eq (cl k) k _ _) ?_;unfold impl_tally_add.F impl_tally_add.Fm;have new:∀{es:List (ByteArray×Int)},(∀o,OcOk o→mfind .str es (key o)=plc (L.map (·.1)) o 0)→plc (L.map (·.1)) o 0=none→TlI (some (mput .str es (key o) ((L.map (·.1)).length:Int)),L.map (·.1)++[o],L.map (·.2)++[1],()) (bump L o):=by
    intro es hf hn;have e:=bump_new L o (plc_none.1 hn);rw[e];refine⟨by simp,by simp,fun h=>(by cases h),fun o' ho'=>?_⟩;have:=find_new ho ho' hf hn;rw[List.map_append];exact this
  have ll:(L.map (·.1)).length=L.length:=List.length_map _;have l2:(L.map (·.2)).length=L.length:=List.length_map _;have hw:∀i(h:i<L.length),IntKind.i64.wrap (L[i].2+1)=L[i].2+1:=fun i h=>by
    have:=hb.2 _ (List.getElem_mem h);exact w64 (by omega) (by omega)
  have w1:IntKind.i64.wrap (0+1)=1:=by decide
  have ap1:decide (((L.map (·.1)).length+[o].length)*ti38.bytes≤140737488355328)=true:=apb (by rw[ti_oc,ll];simp only[List.length_cons,List.length_nil];omega);have ap2:decide (((L.map (·.2)).length+[(0:Int)].length)*ti2.bytes≤140737488355328)=true:=apb (by rw[by2,l2];simp only[List.length_cons,List.length_nil];omega);have ix:(decide ((0:Int)≤((L.map (·.1)).length:Int))&&decide ((((L.map (·.1)).length:Int)).toNat<(L.map (·.2)++[(0:Int)]).length))=true:=idx_ok (by rw[ll,List.length_append,l2];exact Nat.lt_succ_self _);have gx:lget (L.map (·.2)++[(0:Int)]) (((L.map (·.1)).length:Int)).toNat=some 0:=by
    rw[Int.toNat_natCast,ll,←l2];exact(List.getElem?_eq_getElem (by rw[List.length_append];exact Nat.lt_succ_self _)).trans (congrArg some (by rw[List.getElem_append_right (Nat.le_refl _)];simp))
  cases pl with
  | none=>
    have e0:L=[]:=h3 rfl;refine Tq.bt rfl (Tq.ba hk ?_);have hn:plc (L.map (·.1)) o 0=none:=by rw[e0];rfl
    refine Tq.bt rfl (Tq.bt ap1 (Tq.bt ap2 (Tq.bt ix (Tq.some gx (Tq.bt ix (Tq.some gx ?_))))));refine Tq.ret ?_;dsimp only;rw[w1,Int.toNat_natCast];have:=new (es:=[]) (fun o' ho'=>by rw[e0];rfl) hn;rw[ll]at this⊢;rw[←l2,set_app,l2];exact this
  | some es=>
    refine Tq.bf rfl (Tq.ba hk ?_);have h4:∀o,OcOk o→mfind .str es (key o)=plc (L.map (·.1)) o 0:=h4
    cases hpl:plc (L.map (·.1)) o 0 with
    | none=>
      have hf:mfind .str ((some es).getD []) (key o)=none:=(h4 o ho).trans hpl;refine Tq.bt (by show(!(mfind .str _ (key o)).isSome)=true;rw[hf];rfl) (Tq.some rfl (Tq.bt ap1 (Tq.bt ap2 (Tq.bt ix (Tq.some gx (Tq.bt ix (Tq.some gx ?_)))))));refine Tq.ret ?_;dsimp only;rw[w1,Int.toNat_natCast];have:=new h4 hpl;rw[ll]at this⊢;rw[←l2,set_app,l2];exact this
    | some x=>
      have hf:mfind .str ((some es).getD []) (key o)=some x:=(h4 o ho).trans hpl;obtain⟨i,hi,rfl,hio⟩:=plc_some hpl;rw[Nat.zero_add]at hf hpl;have hi2:i<L.length:=by rw[ll]at hi;exact hi
      have hi3:i<(L.map (·.2)).length:=by rw[l2];exact hi2
      have e:=bump_old L o i 0 hi2 (by rw[hpl,Nat.zero_add]);have ix2:(decide ((0:Int)≤(mfind .str ((some es).getD []) (key o)).getD (Int.ofNat (nat_lit 0)))&&decide (((mfind .str ((some es).getD []) (key o)).getD (Int.ofNat (nat_lit 0))).toNat<(L.map (·.2)).length))=true:=by rw[hf];exact idx_ok hi3
      have gx2:lget (L.map (·.2)) ((mfind .str ((some es).getD []) (key o)).getD (Int.ofNat (nat_lit 0))).toNat=some L[i].2:=by
        rw[hf];exact(lg hi3).trans (congrArg some (List.getElem_map _))
      refine Tq.bf (by show(!(mfind .str _ (key o)).isSome)=false;rw[hf];rfl) (Tq.bt ix2 (Tq.some gx2 (Tq.bt ix2 (Tq.some gx2 ?_))));refine Tq.ret ?_;dsimp only;rw[hw i hi2];have hm:o∈L.map (·.1):=hio▸List.getElem_mem hi;have e2:=bump_fst L o;rw[if_pos hm]at e2;refine⟨e2.symm,?_,fun h=>(by cases h),fun o' ho'=>by rw[e2];exact h4 o' ho'⟩;rw[e];show(L.map (·.2)).set _ _=_
      have:((mfind .str ((some es).getD []) (key o)).getD (Int.ofNat (nat_lit 0))).toNat=i:=by rw[hf];exact Int.toNat_natCast i
      exact congrArg (fun n=>(L.map (·.2)).set n (L[i].2+1)) this
def tal(L:Tal)(l:List Oc):Tal:=l.foldl bump L
theorem tal_fst:∀(L:Tal)(l:List Oc),(tal L l).map (·.1)=ddF (L.map (·.1)) l
  |L,[]=>rfl
  | L,o::l=>by
    show(tal (bump L o) l).map (·.1)=_
    rw[tal_fst,bump_fst,ddF];split<;>rfl
theorem tal_bd:∀{L:Tal}{l:List Oc}{c:Nat},Bd L c→Fews l→Bd (tal L l) (c+l.length)
  |L,[],c,h,_=>h
  | L,o::l,c,h,hl=>by
    have:=tal_bd (h.bump (hl o List.mem_cons_self)) (l:=l) fun x hx=>hl x (List.mem_cons_of_mem _ hx)
    rw[show c+(o::l).length=c+1+l.length by simp only[List.length_cons];omega];exact this
end Go.Proofs.YtjgfofcgmcnblaaGreat.Pf
namespace Go.Proofs.YtjgfofcgmcnblaaGreat.Pf
open Go Go.Pv IntKind
abbrev YC_0:Type:=(Int×((List (Int×(Int×Unit)))×((List (Int×(Int×Unit)))×(Int×((List Int)×((List (Int×(Int×((List (Int×(Int×Unit)))×((List (Int×(Int×Unit)))×Unit)))))×Unit))))))
abbrev YC_1:Type:=((List ((List Int)×(Int×(Int×Unit)))))
abbrev YC_2:Type:=(List ((List Int)×(Int×(Int×Unit))))
abbrev YC_4:Type:=(((List Int)×Unit)×Unit)
abbrev YC_5:Type:=(List (List Int))
namespace spec_l8Table
abbrev R:=(((List (List Int))×((List ((List Int)×(Int×(Int×Unit))))×Unit))×Unit)
def S0(a0:YC_0)(y0:(YC_4))(v0_0:Int)(v0_1:YC_2)(v0_2:YC_5):St:=⟨mkS 34 [(1,.p [500001] [] 0),(4,.ref [500004]),(5,.ref [500005]),(6,.ref [500006]),(7,.v tI v0_0)],[([500006],.list 38 (.pair (.slc tI) tTm) v0_1),([500005],.list 28 (.slc tI) v0_2),([500004],.list 2 tI (y0.1.1)),([500001],.box (.v tPg ((a0.1),((a0.2.1),((a0.2.2.1),((a0.2.2.2.1),((a0.2.2.2.2.1),((a0.2.2.2.2.2.1),()))))))))]⟩
def step0(call:Cl)(k:Nat)(a0:YC_0)(y0:YC_4)(r0:(Int)→YC_1→(YC_5)→Option R)(v0_0:Int)(v0_1:YC_2)(v0_2:YC_5):Option R:=(call 90 s_spec_l7Count (y0.1.1,())).bind fun(y1:(Int×Unit)×Unit)=>bif decide (v0_0<y1.1.1)then(call 154 s_spec_l7At (y0.1.1,v0_0,())).bind fun(y2:((List Int×Unit)×Unit))=>bif decide ((v0_2.length+[y2.1.1].length)*ti28.bytes≤140737488355328)then(call 167 s_spec_l6Of (a0,y2.1.1,())).bind fun(y3:(((List Int×Int×Int×Unit)×Unit)×Unit))=>bif decide ((v0_1.length+[y3.1.1].length)*ti38.bytes≤140737488355328)then r0 (i64.wrap (v0_0+1)) (v0_1++[y3.1.1]) (v0_2++[y2.1.1])else none else none else some ((v0_2,v0_1,()),())
def L0(call:Cl)(k:Nat)(a0:YC_0)(y0:YC_4):Nat→(Int)→YC_1→(YC_5)→Option R|0,_,_,_=>none|n+1,v0_0,v0_1,v0_2=>step0 call k a0 y0 (L0 call k a0 y0 n) v0_0 v0_1 v0_2
def Fm(call:Cl)(k:Nat)(l0:(YC_0)→(YC_4)→(Int)→YC_1→(YC_5)→Option R)(a0:YC_0):Option R:=(call 91 s_spec_l7Maxes (a0,())).bind fun(y0:((List Int×Unit)×Unit))=>l0 a0 y0 0 [] []
def F(call:Cl)(k:Nat)(a0:YC_0):Option R:=Fm call k (fun a0_ y0_ v0_0_ v0_1_ v0_2_=>L0 call k a0_ y0_ k v0_0_ v0_1_ v0_2_) a0
theorem L0_eq(call:Cl)(k:Nat)(J:Nat→St→Option R)(a0:YC_0)(y0:YC_4):∀(n:Nat)(x:((Int)×YC_1×(YC_5))),siteI E call n_spec_l8Table k s_spec_l8Table (a0,()) J 0 n (S0 a0 y0 x.1 x.2.1 x.2.2)=L0 call k a0 y0 n x.1 x.2.1 x.2.2:=by
  refine loop_eq (s:=s_spec_l8Table) (fun x=>S0 a0 y0 x.1 x.2.1 x.2.2) (fun n x=>L0 call k a0 y0 n x.1 x.2.1 x.2.2) (fun r x=>step0 call k a0 y0 (fun v0_0 v0_1 v0_2=>r (v0_0,v0_1,v0_2)) x.1 x.2.1 x.2.2) (fun _=>rfl) (fun _ _=>rfl) fun J0 x=>?_
  kernel_rfl
theorem F_eq(call:Cl)(k:Nat)(a0:YC_0):bodyK E call n_spec_l8Table k s_spec_l8Table (a0,())=F call k a0:=by
  exact Eq.trans (b:=Fm call k (fun a0 y0 v0_0_ v0_1_ v0_2_=>siteI E call n_spec_l8Table k s_spec_l8Table (a0,()) (fun _ _=>none) 0 k (S0 a0 y0 v0_0_ v0_1_ v0_2_)) a0) (by kernel_rfl) (congrArg (fun l=>Fm call k l a0) (funext fun a0=>funext fun y0=>funext fun v0_0_=>funext fun v0_1_=>funext fun v0_2_=>L0_eq call k (fun _ _=>none) a0 y0 k (v0_0_,v0_1_,v0_2_)))
end spec_l8Table
end Go.Proofs.YtjgfofcgmcnblaaGreat.Pf
namespace Go.Proofs.YtjgfofcgmcnblaaGreat.Pf
open Go Go.Pv
def inA(p:Pg)(m:Nat):List Int:=atF (mx p) (m:Int)
def ins(p:Pg)(n:Nat):List (List Int):=(List.range n).map (inA p)
def ous(p:Pg)(t:Fs)(n:Nat):List Oc:=(List.range n).map fun m=>oc p t (inA p m)
def cN(p:Pg):Nat:=(cntF (mx p)).toNat
theorem ins_succ(p:Pg)(n:Nat):ins p (n+1)=ins p n++[inA p n]:=by
  unfold ins;rw[List.range_succ,List.map_append];rfl
theorem ous_succ(p:Pg)(t:Fs)(n:Nat):ous p t (n+1)=ous p t n++[oc p t (inA p n)]:=by
  unfold ous;rw[List.range_succ,List.map_append];rfl
theorem ins_len(p:Pg)(n:Nat):(ins p n).length=n:=by unfold ins;rw[List.length_map,List.length_range]
theorem ous_len(p:Pg)(t:Fs)(n:Nat):(ous p t n).length=n:=by unfold ous;rw[List.length_map,List.length_range]
section
variable {p:Pg}{t:Fs}(ht:Ok p t)
include ht
theorem inA_wi(m:Nat):Wi p (inA p m):=at_wi ht.hd (Int.natCast_nonneg m)
theorem cN_bd:cN p≤1024∧((cN p:Nat):Int)=cntF (mx p):=by
  have:=cnt_bd ht.hd;unfold cN;omega
theorem mx6:(mx p).length≤6:=by
  have:=ht.hd.b;rw[mx_len];omega
theorem table_ans:Ans n_spec_l8Table s_spec_l8Table (p,()) ((ins p (cN p),ous p t (cN p),()),()):=by
  obtain⟨hc,ec⟩:=cN_bd ht;have hC:=count_ans (mx_few ht.hd) (mx6 ht) (cnt_bd ht.hd).2;refine Gv.ans (Gv.of (fun k=>spec_l8Table.F_eq (cl k) k p) ?_);unfold spec_l8Table.F spec_l8Table.Fm;refine Tq.ba (maxes_ans ht.hd) ?_;have key:∀(d j:Nat),cN p-j=d→j≤cN p→Tq (d+1) (fun k q=>spec_l8Table.L0 (cl k) k p ((mx p,()),()) q (j:Int) (ous p t j) (ins p j)) (· =((ins p (cN p),ous p t (cN p),()),())):=by
    intro d
    induction d with
    | zero=>
      intro j hd hj;obtain rfl:j=cN p:=by omega
      refine Tq.succ ?_;show Tq _ (fun k q=>spec_l8Table.step0 (cl k) k ..) _
      unfold spec_l8Table.step0;exact Tq.ba hC (Tq.bf (decide_eq_false (by dsimp only;omega)) (Tq.ret rfl))
    | succ d ih=>
      intro j hd hj;have l1:=ins_len p j;have l2:=ous_len p t j;refine Tq.succ ?_;show Tq _ (fun k q=>spec_l8Table.step0 (cl k) k ..) _
      unfold spec_l8Table.step0;refine Tq.ba hC (Tq.bt (decide_eq_true (by dsimp only;omega)) (Tq.ba (at_ans (mx_few ht.hd) (mx6 ht) (Int.natCast_nonneg j) (by omega)) (Tq.bt (apb (by rw[by23];simp only[List.length_cons,List.length_nil];omega)) ?_)));refine Tq.ba (l6Of_ans ht (inA_wi ht j)) (Tq.bt (apb (by rw[ti_oc];simp only[List.length_cons,List.length_nil];omega)) ?_);rw[ws (n:=cN p) (by omega) (by omega)];have:=ih (j+1) (by omega) (by omega);rw[ins_succ,ous_succ]at this;exact this
  exact Tq.diag (key _ 0 rfl (Nat.zero_le _))
theorem wi_in:∀m,Within ((inA p m).take p.2.1.length) p.2.1∧Within ((inA p m).drop p.2.1.length) p.2.2.1:=inA_wi ht
theorem inputOf_ans {n:Nat}(hn:n≤1024):Ans n_impl_inputOf s_impl_inputOf (p,(n:Int),()) (((inA p n).take p.2.1.length,(inA p n).drop p.2.1.length,()),()):=by
  have hp:=ht.hd;have hb:=hp.b;have e0:mx p=(p.2.1++p.2.2.1).map (·.1):=by unfold mx;rw[List.map_append]
  have hf:=mx_few hp;have hn6:(p.2.1++p.2.2.1).length≤6:=by rw[List.length_append];omega
  have hge:p.2.1.length≤(p.2.1++p.2.2.1).length:=by rw[List.length_append];omega
  have hA:=allIn_ans hp;refine Gv.ans (Gv.of (fun k=>impl_inputOf.F_eq (cl k) k p n) ?_);unfold impl_inputOf.F impl_inputOf.Fm inA;rw[e0]at hf⊢;generalize p.2.1++p.2.2.1=l at*;refine Tq.ba hA ?_;have key:∀(d j:Nat)(n:Int)(acc:List Int),l.length-j=d→0≤n→n≤1024→acc.length=j→j≤l.length→Tq (d+1) (fun k q=>impl_inputOf.L0 (cl k) k p ((l,()),()) q n (j:Int) acc) (· =(((acc++atF ((l.drop j).map (·.1)) n).take p.2.1.length,(acc++atF ((l.drop j).map (·.1)) n).drop p.2.1.length,()),())):=by
    intro d
    induction d with
    | zero=>
      intro j n acc hd h0 h1 h2 h3;refine Tq.succ ?_;show Tq _ (fun k q=>impl_inputOf.step0 (cl k) k ..) _
      unfold impl_inputOf.step0;have e:l.drop j=[]:=List.drop_of_length_le (by omega);rw[e];simp only[List.map_nil,atF,List.append_nil];refine Tq.bf (dnlt (by omega)) ?_;rw[Int.toNat_natCast];have hc:p.2.1.length≤acc.length:=by omega
      refine Tq.bt (dle0 _) (Tq.bt (by simp only[zs];omega) (Tq.bt (apb (by rw[by2];simp only[List.length_take,List.length_drop];omega)) (Tq.bt (dle0 _) (Tq.bt (by simp only[zs];omega) (Tq.bt (apb (by rw[by2];simp only[List.length_take,List.length_drop];omega)) (Tq.ret ?_))))));rw[List.take_of_length_le (show(acc.drop p.2.1.length).length≤acc.length-p.2.1.length by rw[List.length_drop];exact Nat.le_refl _)];rfl
    | succ d ih=>
      intro j n acc hd h0 h1 h2 h3;have hj:j<l.length:=by omega
      have hx:=hf _ (List.mem_map.2 ⟨_,List.getElem_mem hj,rfl⟩);have q0:=Int.tdiv_nonneg h0 (show 0≤l[j].1+1 by omega);have q1:=Int.tdiv_le_self (l[j].1+1) h0;refine Tq.succ ?_;show Tq _ (fun k q=>impl_inputOf.step0 (cl k) k ..) _
      unfold impl_inputOf.step0;refine Tq.bt (dlt hj) (Tq.bt (idx_ok hj) (Tq.some (lg hj) ?_));rw[w64 (x:=l[j].1+1) (by omega) (by omega)];refine Tq.bf (decide_eq_false (by omega)) (Tq.bt (apb (by rw[by2];simp only[List.length_cons,List.length_nil];omega)) (Tq.bf (decide_eq_false (by omega)) ?_));rw[ws hj (by omega),w64 (by omega) (by omega),List.drop_eq_getElem_cons hj];have:=ih (j+1) _ (acc++[n.tmod (l[j].1+1)]) (by omega) q0 (by omega) (by simp;omega) (by omega);rw[List.append_assoc acc,List.singleton_append]at this;exact this
  exact Tq.diag (key _ 0 n [] rfl (by omega) (by omega) rfl (Nat.zero_le _))
theorem runIn_gv(n:Nat):Gv n_impl_ran s_impl_ran (p,(inA p n).take p.2.1.length,(inA p n).drop p.2.1.length,()) (fun(r:(Oc×(ET×Unit))×Unit)=>r.1.1=oc p t (inA p n)):=by
  have h:=wi_in ht n;have:=ran_ans ht h.1 h.2;rw[List.take_append_drop]at this;exact this
theorem bd0:Bd [] 0:=⟨Nat.le_refl _,fun _ h=>by cases h⟩
end
end Go.Proofs.YtjgfofcgmcnblaaGreat.Pf
namespace Go.Proofs.YtjgfofcgmcnblaaGreat.Pf
open Go Go.Pv IntKind
abbrev YD_0:Type:=(Int×((List (Int×(Int×Unit)))×((List (Int×(Int×Unit)))×(Int×((List Int)×((List (Int×(Int×((List (Int×(Int×Unit)))×((List (Int×(Int×Unit)))×Unit)))))×Unit))))))
abbrev YD_2:Type:=((List ((List Int)×(Int×(Int×Unit)))))
abbrev YD_3:Type:=(List ((List Int)×(Int×(Int×Unit))))
abbrev YD_5:Type:=(List (List Int))
namespace spec_l8Fits
abbrev R:=((Bool×Unit)×Unit)
def S0(a0:(List Int))(a1:(List Int))(a2:Int)(a3:(List Bool))(v0_4:Int):St:=⟨mkS 39 [(0,.v (.slc tI) (a0)),(1,.v (.slc tI) (a1)),(2,.v tI (a2)),(3,.v (.slc .bool) (a3)),(9,.v tI v0_4)],[]⟩
def step0(call:Cl)(k:Nat)(a0:(List Int))(a1:(List Int))(a2:Int)(a3:(List Bool))(r0:(Int)→Option R)(v0_4:Int):Option R:=bif decide (v0_4<(↑a0.length:Int))then bif decide (0≤v0_4)then(lget a0 v0_4.toNat).bind fun(y0:Int)=>bif decide (0≤v0_4)then(lget a1 v0_4.toNat).bind fun(y1:Int)=>bif y0 !=y1 then bif decide (v0_4<a2)then some ((false,()),())else bif decide (0≤i64.wrap (v0_4-a2))then(lget a3 (i64.wrap (v0_4-a2)).toNat).bind fun(y2:Bool)=>bif !y2 then some ((false,()),())else r0 (i64.wrap (v0_4+1))else none else r0 (i64.wrap (v0_4+1))else none else none else some ((true,()),())
def L0(call:Cl)(k:Nat)(a0:(List Int))(a1:(List Int))(a2:Int)(a3:(List Bool)):Nat→(Int)→Option R|0,_=>none|n+1,v0_4=>step0 call k a0 a1 a2 a3 (L0 call k a0 a1 a2 a3 n) v0_4
def Fm(call:Cl)(k:Nat)(l0:((List Int))→((List Int))→(Int)→((List Bool))→(Int)→Option R)(a0:(List Int))(a1:(List Int))(a2:Int)(a3:(List Bool)):Option R:=l0 a0 a1 a2 a3 0
def F(call:Cl)(k:Nat)(a0:(List Int))(a1:(List Int))(a2:Int)(a3:(List Bool)):Option R:=Fm call k (fun a0_ a1_ a2_ a3_ v0_4_=>L0 call k a0_ a1_ a2_ a3_ k v0_4_) a0 a1 a2 a3
theorem L0_eq(call:Cl)(k:Nat)(J:Nat→St→Option R)(a0:(List Int))(a1:(List Int))(a2:Int)(a3:(List Bool)):∀(n:Nat)(x:(Int)),siteI E call n_spec_l8Fits k s_spec_l8Fits (a0,a1,a2,a3,()) J 0 n (S0 a0 a1 a2 a3 x)=L0 call k a0 a1 a2 a3 n x:=by
  refine loop_eq (s:=s_spec_l8Fits) (fun x=>S0 a0 a1 a2 a3 x) (fun n x=>L0 call k a0 a1 a2 a3 n x) (fun r x=>step0 call k a0 a1 a2 a3 (fun v0_4=>r v0_4) x) (fun _=>rfl) (fun _ _=>rfl) fun J0 x=>?_
  kernel_rfl
theorem F_eq(call:Cl)(k:Nat)(a0:(List Int))(a1:(List Int))(a2:Int)(a3:(List Bool)):bodyK E call n_spec_l8Fits k s_spec_l8Fits (a0,a1,a2,a3,())=F call k a0 a1 a2 a3:=by
  exact Eq.trans (b:=Fm call k (fun a0 a1 a2 a3 v0_4_=>siteI E call n_spec_l8Fits k s_spec_l8Fits (a0,a1,a2,a3,()) (fun _ _=>none) 0 k (S0 a0 a1 a2 a3 v0_4_)) a0 a1 a2 a3) (by kernel_rfl) (congrArg (fun l=>Fm call k l a0 a1 a2 a3) (funext fun a0=>funext fun a1=>funext fun a2=>funext fun a3=>funext fun v0_4_=>L0_eq call k (fun _ _=>none) a0 a1 a2 a3 k v0_4_))
end spec_l8Fits
namespace spec_l8All
abbrev R:=(((List ((List Int)×(Int×(Int×Unit))))×Unit)×Unit)
def S0(a0:YD_0)(a1:YD_5)(a2:YD_3)(a3:(List Int))(a4:(List Bool))(v0_4:Int)(v0_5:YD_3):St:=⟨mkS 38 [(1,.v (.slc (.slc tI)) (a1)),(2,.v (.slc (.pair (.slc tI) tTm)) (a2)),(3,.v (.slc tI) (a3)),(4,.v (.slc .bool) (a4)),(5,.p [500005] [] 0),(11,.ref [500011]),(12,.v tI v0_4)],[([500011],.list 38 (.pair (.slc tI) tTm) v0_5),([500005],.box (.v tPg ((a0.1),((a0.2.1),((a0.2.2.1),((a0.2.2.2.1),((a0.2.2.2.2.1),((a0.2.2.2.2.2.1),()))))))))]⟩
def step0(call:Cl)(k:Nat)(a0:YD_0)(a1:YD_5)(a2:YD_3)(a3:(List Int))(a4:(List Bool))(r0:(Int)→YD_2→Option R)(v0_4:Int)(v0_5:YD_3):Option R:=bif decide (v0_4<(↑a1.length:Int))then bif decide (0≤v0_4)then(lget a1 v0_4.toNat).bind fun(y0:List Int)=>(call 170 s_spec_l8Fits (y0,a3,(↑a0.2.1.length:Int),a4,())).bind fun(y1:(Bool×Unit)×Unit)=>bif y1.1.1 then bif decide (0≤v0_4)then(lget a2 v0_4.toNat).bind fun(y2:(List Int×Int×Int×Unit))=>bif decide ((v0_5.length+[y2].length)*ti38.bytes≤140737488355328)then r0 (i64.wrap (v0_4+1)) (v0_5++[y2])else none else none else r0 (i64.wrap (v0_4+1)) v0_5 else none else some ((v0_5,()),())
def L0(call:Cl)(k:Nat)(a0:YD_0)(a1:YD_5)(a2:YD_3)(a3:(List Int))(a4:(List Bool)):Nat→(Int)→YD_2→Option R|0,_,_=>none|n+1,v0_4,v0_5=>step0 call k a0 a1 a2 a3 a4 (L0 call k a0 a1 a2 a3 a4 n) v0_4 v0_5
def Fm(call:Cl)(k:Nat)(l0:(YD_0)→(YD_5)→YD_2→((List Int))→((List Bool))→(Int)→YD_2→Option R)(a0:YD_0)(a1:YD_5)(a2:YD_3)(a3:(List Int))(a4:(List Bool)):Option R:=l0 a0 a1 a2 a3 a4 0 []
def F(call:Cl)(k:Nat)(a0:YD_0)(a1:YD_5)(a2:YD_3)(a3:(List Int))(a4:(List Bool)):Option R:=Fm call k (fun a0_ a1_ a2_ a3_ a4_ v0_4_ v0_5_=>L0 call k a0_ a1_ a2_ a3_ a4_ k v0_4_ v0_5_) a0 a1 a2 a3 a4
theorem L0_eq(call:Cl)(k:Nat)(J:Nat→St→Option R)(a0:YD_0)(a1:YD_5)(a2:YD_3)(a3:(List Int))(a4:(List Bool)):∀(n:Nat)(x:((Int)×YD_2)),siteI E call n_spec_l8All k s_spec_l8All (a0,a1,a2,a3,a4,()) J 0 n (S0 a0 a1 a2 a3 a4 x.1 x.2)=L0 call k a0 a1 a2 a3 a4 n x.1 x.2:=by
  refine loop_eq (s:=s_spec_l8All) (fun x=>S0 a0 a1 a2 a3 a4 x.1 x.2) (fun n x=>L0 call k a0 a1 a2 a3 a4 n x.1 x.2) (fun r x=>step0 call k a0 a1 a2 a3 a4 (fun v0_4 v0_5=>r (v0_4,v0_5)) x.1 x.2) (fun _=>rfl) (fun _ _=>rfl) fun J0 x=>?_
  kernel_rfl
theorem F_eq(call:Cl)(k:Nat)(a0:YD_0)(a1:YD_5)(a2:YD_3)(a3:(List Int))(a4:(List Bool)):bodyK E call n_spec_l8All k s_spec_l8All (a0,a1,a2,a3,a4,())=F call k a0 a1 a2 a3 a4:=by
  exact Eq.trans (b:=Fm call k (fun a0 a1 a2 a3 a4 v0_4_ v0_5_=>siteI E call n_spec_l8All k s_spec_l8All (a0,a1,a2,a3,a4,()) (fun _ _=>none) 0 k (S0 a0 a1 a2 a3 a4 v0_4_ v0_5_)) a0 a1 a2 a3 a4) (by kernel_rfl) (congrArg (fun l=>Fm call k l a0 a1 a2 a3 a4) (funext fun a0=>funext fun a1=>funext fun a2=>funext fun a3=>funext fun a4=>funext fun v0_4_=>funext fun v0_5_=>L0_eq call k (fun _ _=>none) a0 a1 a2 a3 a4 k (v0_4_,v0_5_)))
end spec_l8All
end Go.Proofs.YtjgfofcgmcnblaaGreat.Pf
namespace Go.Proofs.YtjgfofcgmcnblaaGreat.Pf
open Go Go.Pv
theorem Tq.fuel {α:Type}{d:Nat}{P:α→Prop}{F G:Nat→Nat→Nat→Option α}(e:∀k q n,F k q (n+1)=G k q n){m:Nat→Nat}{N:Nat}(hm:∀k,N≤k→1≤m k)(h:Tq d (fun k q=>G k q (m k-1)) P):Tq d (fun k q=>F k q (m k)) P:=
  Tq.evEq ⟨N,fun k hk q _=>by
    have:=hm k hk;obtain⟨x,hx⟩:∃x,m k=x+1:=⟨m k-1,by omega⟩
    rw[hx];exact e k q x⟩ h
def FT(a b:List Int)(n:Nat)(free:List Bool)(j:Nat):Prop:=∀i,j≤i→∀(h1:i<a.length)(h2:i<b.length),a[i]=b[i]∨(n≤i∧∃h3:i-n<free.length,free[i-n]=true)
theorem FT_end {a b:List Int}{n:Nat}{free:List Bool}{j:Nat}(h:a.length≤j):FT a b n free j:=fun i h0 h1 _=>by omega
theorem FT_next {a b:List Int}{n:Nat}{free:List Bool}{j:Nat}(h:∀(h1:j<a.length)(h2:j<b.length),a[j]=b[j]∨(n≤j∧∃h3:j-n<free.length,free[j-n]=true)):FT a b n free j↔FT a b n free (j+1):=by
  constructor
  . exact fun e i hi=>e i (by omega)
  . intro e i hi;rcases Nat.lt_or_ge j i with h1|h1
    . exact e i h1
    . obtain rfl:i=j:=by omega
      exact h
theorem l8Fits_ans {a b:List Int}{n:Nat}{free:List Bool}(h1:a.length=b.length)(h2:n+free.length=a.length)(h3:a.length≤6):Ans n_spec_l8Fits s_spec_l8Fits (a,b,(n:Int),free,()) ((bo (FT a b n free 0),()),()):=by
  refine Gv.ans (Gv.of (fun k=>spec_l8Fits.F_eq (cl k) k a b n free) ?_);unfold spec_l8Fits.F spec_l8Fits.Fm;have key:∀(d j:Nat),a.length-j=d→Tq (d+1) (fun k q=>spec_l8Fits.L0 (cl k) k a b n free q (j:Int)) (· =((bo (FT a b n free j),()),())):=by
    intro d
    induction d with
    | zero=>
      intro j hd;refine Tq.succ ?_;show Tq _ (fun k q=>spec_l8Fits.step0 (cl k) k ..) _
      unfold spec_l8Fits.step0;rw[bo_t (FT_end (by omega))];exact Tq.bf (dnlt (by omega)) (Tq.ret rfl)
    | succ d ih=>
      intro j hd;have hj:j<a.length:=by omega
      have hj':j<b.length:=by omega
      refine Tq.succ ?_;show Tq _ (fun k q=>spec_l8Fits.step0 (cl k) k ..) _
      unfold spec_l8Fits.step0;refine Tq.bt (dlt hj) (Tq.bt (dle0 _) (Tq.some (lg hj) (Tq.bt (dle0 _) (Tq.some (lg hj') ?_))));by_cases c:a[j]=b[j]
      . rw[bo_congr (FT_next fun _ _=>.inl c),ws hj (by omega)];exact Tq.bf (bne_eq_false_iff_eq.2 c) (ih (j+1) (by omega))
      . refine Tq.bt (bne_iff_ne.2 c) ?_;by_cases c2:j<n
        . rw[bo_f (fun e=>(e j (Nat.le_refl _) hj hj').elim c fun h=>by omega)];exact Tq.bt (decide_eq_true (by omega)) (Tq.ret rfl)
        . have e:IntKind.i64.wrap ((j:Int)-(n:Int))=((j-n:Nat):Int):=by rw[w64 (by omega) (by omega)];omega
          have hf:j-n<free.length:=by omega
          rw[e];refine Tq.bf (decide_eq_false (by omega)) (Tq.bt (dle0 _) (Tq.some (lg hf) ?_));cases c3:free[j-n]
          . rw[bo_f (fun e=>(e j (Nat.le_refl _) hj hj').elim c fun⟨_,_,h⟩=>by rw[c3]at h;cases h)];exact Tq.bt rfl (Tq.ret rfl)
          . rw[bo_congr (FT_next fun _ _=>.inr ⟨by omega,hf,c3⟩),ws hj (by omega)];exact Tq.bf rfl (ih (j+1) (by omega))
  exact Tq.diag (key _ 0 rfl)
theorem FT_split {o h l s:List Int}{free:List Bool}(h1:o.length=l.length)(h2:h.length=s.length)(h3:free.length=h.length):(FT h s 0 free 0∧o=l)↔FT (o++h) (l++s) l.length free 0:=by
  constructor
  . rintro⟨e,rfl⟩ i _ i1 i2;rcases Nat.lt_or_ge i o.length with c|c
    . left;rw[List.getElem_append_left c,List.getElem_append_left c]
    . rw[List.length_append]at i1 i2;rw[List.getElem_append_right c,List.getElem_append_right c];exact(e (i-o.length) (Nat.zero_le _) (by omega) (by omega)).imp id fun⟨_,a,b⟩=>⟨c,a,b⟩
  . intro e;constructor
    . intro i _ i1 i2;have:=e (l.length+i) (Nat.zero_le _) (by rw[List.length_append];omega) (by rw[List.length_append];omega);rw[List.getElem_append_right (by omega),List.getElem_append_right (by omega)]at this;have e1:l.length+i-o.length=i:=by omega
      have e2:l.length+i-l.length=i:=by omega
      simp only[e1,e2]at this;exact this.imp id fun⟨_,a,b⟩=>⟨Nat.zero_le _,a,b⟩
    . refine List.ext_getElem h1 fun i i1 i2=>?_
      have:=e i (Nat.zero_le _) (by rw[List.length_append];omega) (by rw[List.length_append];omega);rw[List.getElem_append_left i1,List.getElem_append_left i2]at this;exact this.elim id fun⟨a,_⟩=>by omega
theorem ins_get {p:Pg}{n j:Nat}(h:j<(ins p n).length):(ins p n)[j]=inA p j:=by simp only[ins,List.getElem_map,List.getElem_range]
theorem ous_get {p:Pg}{t:Fs}{n j:Nat}(h:j<(ous p t n).length):(ous p t n)[j]=oc p t (inA p j):=by simp only[ous,List.getElem_map,List.getElem_range]
def Ft(p:Pg)(b:List Int)(free:List Bool)(m:Nat):Prop:=FT (inA p m) b p.2.1.length free 0
noncomputable def fous(p:Pg)(t:Fs)(b:List Int)(free:List Bool)(n:Nat):List Oc:=((List.range n).filter fun m=>bo (Ft p b free m)).map fun m=>oc p t (inA p m)
theorem fous_t {p:Pg}{t:Fs}{b:List Int}{free:List Bool}{n:Nat}(h:Ft p b free n):fous p t b free (n+1)=fous p t b free n++[oc p t (inA p n)]:=by
  unfold fous;rw[List.range_succ,List.filter_append,List.map_append,List.filter_cons_of_pos (by exact bo_t h)];rfl
theorem fous_f {p:Pg}{t:Fs}{b:List Int}{free:List Bool}{n:Nat}(h:¬Ft p b free n):fous p t b free (n+1)=fous p t b free n:=by
  unfold fous;rw[List.range_succ,List.filter_append,List.map_append,List.filter_cons_of_neg (by rw[bo_f h];exact Bool.false_ne_true)];exact List.append_nil _
theorem fous_len(p:Pg)(t:Fs)(b:List Int)(free:List Bool):∀n,(fous p t b free n).length≤n:=fun n=>by
  unfold fous;rw[List.length_map];have:=List.length_filter_le (fun m=>bo (Ft p b free m)) (List.range n);rw[List.length_range]at this;exact this
section
variable {p:Pg}{t:Fs}(ht:Ok p t)
include ht
theorem fous_ok(b:List Int)(free:List Bool)(n:Nat):Fews (fous p t b free n):=fun o ho=>by
  obtain⟨m,_,rfl⟩:=List.mem_map.1 ho;exact oc_ok ht (inA_wi ht m)
theorem inA_len(m:Nat):(inA p m).length=p.2.1.length+p.2.2.1.length:=wi_len (inA_wi ht m)
theorem l8All_ans {b:List Int}{free:List Bool}(hb:b.length=p.2.1.length+p.2.2.1.length)(hf:free.length=p.2.2.1.length):
    Ans n_spec_l8All s_spec_l8All (p,ins p (cN p),ous p t (cN p),b,free,()) ((fous p t b free (cN p),()),()):=by
  have hp:=ht.hd.b;have hc:=(cN_bd ht).1;have l1:=ins_len p (cN p);have l2:=ous_len p t (cN p);refine Gv.ans (Gv.of (fun k=>spec_l8All.F_eq (cl k) k p (ins p (cN p)) (ous p t (cN p)) b free) ?_);unfold spec_l8All.F spec_l8All.Fm;have key:∀(d j:Nat),cN p-j=d→j≤cN p→Tq (d+1) (fun k q=>spec_l8All.L0 (cl k) k p (ins p (cN p)) (ous p t (cN p)) b free q (j:Int) (fous p t b free j)) (· =((fous p t b free (cN p),()),())):=by
    intro d
    induction d with
    | zero=>
      intro j hd hj;obtain rfl:j=cN p:=by omega
      refine Tq.succ ?_;show Tq _ (fun k q=>spec_l8All.step0 (cl k) k ..) _
      unfold spec_l8All.step0;exact Tq.bf (decide_eq_false (by rw[l1];omega)) (Tq.ret rfl)
    | succ d ih=>
      intro j hd hj;have hj1:j<(ins p (cN p)).length:=by omega
      have hj2:j<(ous p t (cN p)).length:=by omega
      have e1:=ins_get hj1;have e2:=ous_get hj2;have il:=inA_len ht j;have hF:=l8Fits_ans (a:=inA p j) (b:=b) (n:=p.2.1.length) (free:=free) (by omega) (by omega) (by omega);have g1:=lg hj1;have g2:=lg hj2;rw[e1]at g1;rw[e2]at g2;have fl:=fous_len p t b free j;refine Tq.succ ?_;show Tq _ (fun k q=>spec_l8All.step0 (cl k) k ..) _
      unfold spec_l8All.step0;refine Tq.bt (decide_eq_true (by omega)) (Tq.bt (dle0 _) (Tq.some g1 (Tq.ba hF ?_)));rw[ws (n:=cN p) (by omega) (by omega)];by_cases c:Ft p b free j
      . have:=ih (j+1) (by omega) (by omega);rw[fous_t c]at this;exact Tq.bt (bo_t c) (Tq.bt (dle0 _) (Tq.some g2 (Tq.bt (apb (by rw[ti_oc];simp only[List.length_cons,List.length_nil];omega)) this)))
      . have:=ih (j+1) (by omega) (by omega);rw[fous_f c]at this;exact Tq.bf (bo_f c) this
  exact Tq.diag (key _ 0 rfl (Nat.zero_le _))
end
section
variable {p:Pg}(hsm:Small p){l s:List Int}{free:List Bool}(hl:l.length≤1048576)(hs:s.length≤1048576)(hf:free.length≤1048576)
include hsm hl hs
end
end Go.Proofs.YtjgfofcgmcnblaaGreat.Pf
namespace Go.Proofs.YtjgfofcgmcnblaaGreat.Pf
open Go Go.Pv
theorem emod_mul {n b c:Int}(h0:0≤n)(hb:0<b)(hc:0<c):n % (b*c)=n % b+b*(n/b % c):=by
  obtain⟨N,rfl⟩:∃N:Nat,n=N:=⟨n.toNat,by omega⟩
  obtain⟨B,rfl⟩:∃B:Nat,b=B:=⟨b.toNat,by omega⟩
  obtain⟨C,rfl⟩:∃C:Nat,c=C:=⟨c.toNat,by omega⟩
  have:=Nat.mod_mul (x:=N) (a:=B) (b:=C)
  exact_mod_cast this
theorem uniq {b x y x' y':Int}(h0:0≤x)(h1:x<b)(h0':0≤x')(h1':x'<b):x+b*y=x'+b*y'↔x=x'∧y=y':=by
  constructor
  . intro h;have e1:(x+b*y)% b=x:=by rw[Int.add_mul_emod_self_left];exact Int.emod_eq_of_lt h0 h1
    have e2:(x'+b*y')% b=x':=by rw[Int.add_mul_emod_self_left];exact Int.emod_eq_of_lt h0' h1'
    rw[h,e2]at e1;subst e1;have e3:b*y=b*y':=by omega
    exact⟨rfl,Int.eq_of_mul_eq_mul_left (by omega) e3⟩
  . rintro⟨rfl,rfl⟩;rfl
def numF:List Int→List Int→Int
  |m::A,x::l=>x+(m+1)*numF A l
  | _,_=>0
def Under(A l:List Int):Prop:=l.length=A.length∧∀(i:Nat)(h:i<l.length)(h2:i<A.length),0≤l[i]∧l[i]≤A[i]
theorem Under.tail {m x:Int}{A l:List Int}(h:Under (m::A) (x::l)):Under A l:=⟨by have:=h.1;simpa using this,fun i i1 i2=>h.2 (i+1) (by simpa using i1) (by simpa using i2)⟩
theorem num_bd:∀{A l:List Int},Few A→Under A l→0≤numF A l∧numF A l<cntF A
  |[],[],_,_=>by show(0:Int)≤0∧(0:Int)<1;omega
  |[],_::_,_,h=>by have:=h.1;simp at this
  | _::_,[],_,h=>by have:=h.1;simp at this
  | m::A,x::l,hA,h=>by
    have h1:=num_bd (A:=A) (l:=l) (fun y hy=>hA y (List.mem_cons_of_mem _ hy)) h.tail;have h2:=h.2 0 (by simp) (by simp);have h2:0≤x∧x≤m:=h2;have h3:=Int.mul_nonneg (show 0≤m+1 by omega) h1.1;have h4:=Int.mul_le_mul_of_nonneg_left (show numF A l+1≤cntF A by omega) (show 0≤m+1 by omega);rw[Int.mul_add]at h4;unfold numF cntF;omega
theorem at_num:∀{A l:List Int}{n:Int},Few A→Under A l→0≤n→(atF A n=l↔n % cntF A=numF A l)
  |[],[],n,_,_,_=>⟨fun _=>Int.emod_one n,fun _=>rfl⟩
  |[],_::_,_,_,h,_=>by have:=h.1;simp at this
  | _::_,[],_,_,h,_=>by have:=h.1;simp at this
  | m::A,x::l,n,hA,h,h0=>by
    have hA':Few A:=fun y hy=>hA y (List.mem_cons_of_mem _ hy)
    have hm:=hA m List.mem_cons_self;have h2:=h.2 0 (by simp) (by simp);have h2:0≤x∧x≤m:=h2;have hq:n.tdiv (m+1)=n/(m+1):=Int.tdiv_eq_ediv_of_nonneg h0;have hr:n.tmod (m+1)=n % (m+1):=Int.tmod_eq_emod_of_nonneg h0;have ih:=at_num (n:=n/(m+1)) hA' h.tail (Int.ediv_nonneg h0 (by omega));have hc:=cnt_pos hA';have e:=emod_mul h0 (show 0<m+1 by omega) (show 0<cntF A by omega);show(n.tmod (m+1)::atF A (n.tdiv (m+1))=x::l)↔n % ((m+1)*cntF A)=x+(m+1)*numF A l
    rw[e,hq,hr,uniq (Int.emod_nonneg _ (by omega)) (Int.emod_lt_of_pos _ (by omega)) h2.1 (by omega),List.cons.injEq,ih]
def secs(p:Pg):List Int:=p.2.2.1.map (·.1)
def lowm(p:Pg):List Int:=p.2.1.map (·.1)
theorem secs_few {p:Pg}(hp:Hd p):Few (secs p):=fun x hx=>by
  obtain⟨y,hy,rfl⟩:=List.mem_map.1 hx;exact sec_few hp y hy
theorem lowm_few {p:Pg}(hp:Hd p):Few (lowm p):=fun x hx=>by
  obtain⟨y,hy,rfl⟩:=List.mem_map.1 hx;exact low_few hp y hy
theorem within_under {l:List Int}{ins:List Ip}(h:Within l ins):Under (ins.map (·.1)) l:=by
  refine⟨by rw[List.length_map];exact h.1,fun i i1 i2=>?_⟩;rw[List.getElem_map];exact h.2 i (Nat.zero_le _) i1 (by rw[List.length_map]at i2;exact i2)
end Go.Proofs.YtjgfofcgmcnblaaGreat.Pf
namespace Go.Proofs.YtjgfofcgmcnblaaGreat.Pf
open Go Go.Pv IntKind
abbrev YH_0:Type:=((Int×((List (Int×(Int×Unit)))×((List (Int×(Int×Unit)))×(Int×((List Int)×((List (Int×(Int×((List (Int×(Int×Unit)))×((List (Int×(Int×Unit)))×Unit)))))×Unit)))))))
abbrev YH_1:Type:=(Int×((List (Int×(Int×Unit)))×((List (Int×(Int×Unit)))×(Int×((List Int)×((List (Int×(Int×((List (Int×(Int×Unit)))×((List (Int×(Int×Unit)))×Unit)))))×Unit))))))
abbrev YH_2:Type:=((Int)×(Int)×((Option (List (ByteArray×((Option (List (ByteArray×Int)))×((List ((List Int)×(Int×(Int×Unit))))×((List Int)×Unit))))))))
abbrev YH_3:Type:=((Option (List (ByteArray×((Option (List (ByteArray×Int)))×((List ((List Int)×(Int×(Int×Unit))))×((List Int)×Unit)))))))
abbrev YH_4:Type:=(Option (List (ByteArray×((Option (List (ByteArray×Int)))×((List ((List Int)×(Int×(Int×Unit))))×((List Int)×Unit))))))
abbrev YH_5:Type:=(Option (List (ByteArray×Int))×List (List Int×Int×Int×Unit)×List Int×Unit)
abbrev YH_6:Type:=(((List Int×Int×Int×Unit)×(List Int×List (List Int)×Unit)×Unit)×Unit)
abbrev YH_7:Type:=((((List (List Int))×((List ((List Int)×(Int×(Int×Unit))))×Unit))×Unit))
abbrev YH_8:Type:=(((List (List Int))×((List ((List Int)×(Int×(Int×Unit))))×Unit))×Unit)
abbrev YH_9:Type:=(List Int×Int×Int×Unit)
abbrev YH_10:Type:=((ByteArray×Unit)×Unit)
abbrev YH_11:Type:=(List (ByteArray×Int))
abbrev YH_12:Type:=(Bool×Unit)
abbrev YH_13:Type:=(Int×Unit)
abbrev YH_14:Type:=(Int×Unit)
namespace impl_listKey
abbrev R:=((ByteArray×Unit)×Unit)
def S0(a0:(List Int))(v0_2:Int)(v0_3:(List Int)):St:=⟨mkS 21 [(3,.ref [500003]),(7,.v (.slc tI) (a0)),(8,.v tI ((↑a0.length:Int))),(9,.v tI v0_2)],[([500003],.list 5 (.int .u8) v0_3)]⟩
def step0(call:Cl)(k:Nat)(a0:(List Int))(r0:(Int)→((List Int))→Option R)(v0_2:Int)(v0_3:(List Int)):Option R:=bif decide (v0_2<(↑a0.length:Int))then bif decide (0≤v0_2)then(lget a0 v0_2.toNat).bind fun(y0:Int)=>bif decide ((v0_3.length+[IntKind.u8.wrap y0].length)*ti5.bytes≤140737488355328)then r0 (i64.wrap (v0_2+1)) (v0_3++[IntKind.u8.wrap y0])else none else none else some ((bytesOf v0_3,()),())
def L0(call:Cl)(k:Nat)(a0:(List Int)):Nat→(Int)→((List Int))→Option R|0,_,_=>none|n+1,v0_2,v0_3=>step0 call k a0 (L0 call k a0 n) v0_2 v0_3
def Fm(call:Cl)(k:Nat)(l0:((List Int))→(Int)→((List Int))→Option R)(a0:(List Int)):Option R:=l0 a0 0 []
def F(call:Cl)(k:Nat)(a0:(List Int)):Option R:=Fm call k (fun a0_ v0_2_ v0_3_=>L0 call k a0_ k v0_2_ v0_3_) a0
theorem L0_eq(call:Cl)(k:Nat)(J:Nat→St→Option R)(a0:(List Int)):∀(n:Nat)(x:((Int)×((List Int)))),siteI E call n_impl_listKey k s_impl_listKey (a0,()) J 0 n (S0 a0 x.1 x.2)=L0 call k a0 n x.1 x.2:=by
  refine loop_eq (s:=s_impl_listKey) (fun x=>S0 a0 x.1 x.2) (fun n x=>L0 call k a0 n x.1 x.2) (fun r x=>step0 call k a0 (fun v0_2 v0_3=>r (v0_2,v0_3)) x.1 x.2) (fun _=>rfl) (fun _ _=>rfl) fun J0 x=>?_
  kernel_rfl
theorem F_eq(call:Cl)(k:Nat)(a0:(List Int)):bodyK E call n_impl_listKey k s_impl_listKey (a0,())=F call k a0:=by
  exact Eq.trans (b:=Fm call k (fun a0 v0_2_ v0_3_=>siteI E call n_impl_listKey k s_impl_listKey (a0,()) (fun _ _=>none) 0 k (S0 a0 v0_2_ v0_3_)) a0) (by kernel_rfl) (congrArg (fun l=>Fm call k l a0) (funext fun a0=>funext fun v0_2_=>funext fun v0_3_=>L0_eq call k (fun _ _=>none) a0 k (v0_2_,v0_3_)))
end impl_listKey
namespace impl_MostFor_1
abbrev R:=((ByteArray×Unit)×Unit)
def Fm(call:Cl)(k:Nat)(a0:(List Int))(a1:(List Int))(a2:Int):Option R:=bif decide ((0+a1.length)*ti2.bytes≤140737488355328)then bif decide (0≤a2)&&decide (a2.toNat<([]++a1).length)then(lget ([]++a1) a2.toNat).bind fun(y0:Int)=>(call 120 s_impl_listKey (a0,())).bind fun(y1:YH_10)=>(call 120 s_impl_listKey (([]++a1).set a2.toNat 0,())).bind fun(y2:YH_10)=>bif decide (ByteArray.size y1.1.1+ByteArray.size y2.1.1≤9223372036854775807)then some ((y1.1.1++y2.1.1,()),())else none else none else none
def F(call:Cl)(k:Nat)(a0:(List Int))(a1:(List Int))(a2:Int):Option R:=Fm call k a0 a1 a2
theorem F_eq(call:Cl)(k:Nat)(a0:(List Int))(a1:(List Int))(a2:Int):bodyK E call n_impl_MostFor_1 k s_impl_MostFor_1 (a0,a1,a2,())=F call k a0 a1 a2:=by kernel_rfl
end impl_MostFor_1
namespace impl_mostOver__impl_MostFor_1
abbrev R:=((Int×Unit)×Unit)
def S0(a0:YH_1)(a1:YH_14)(v0_2:Int)(v0_3:Int)(v0_4:YH_4):St:=⟨mkS 60 [(0,.v (.sptr tPg) (a0)),(1,.v (.clo 124 (.pair (.sptr tI) .unit)) ((a1.1),())),(5,.ref [500005]),(6,.v tI v0_2),(7,.v tI v0_3)],[([500005],.map 206 .str (.bx (.pair (.mp 141 .str tI) (.pair (.own 38 (.pair (.own 2 tI) tTm)) (.pair (.own 2 tI) .unit)))) v0_4)]⟩
def step0(call:Cl)(k:Nat)(a0:YH_1)(a1:YH_14)(r0:(Int)→(Int)→YH_3→Option R)(v0_2:Int)(v0_3:Int)(v0_4:YH_4):Option R:=(call 160 s_impl_manyInputs (a0,())).bind fun(y0:YH_13×Unit)=>bif decide (v0_3<y0.1.1)then(call 161 s_impl_inputOf (a0,v0_3,())).bind fun(y1:((List Int×List Int×Unit)×Unit))=>(call 124 s_impl_MostFor_1 (y1.1.1,y1.1.2.1,a1.1,())).bind fun(y2:YH_10)=>bif(midx ti9.zero.t (v0_4.getD []) y2.1.1).isSome then(midx ti9.zero.t (v0_4.getD []) y2.1.1).bind fun(y3:Nat)=>(call 162 s_impl_ran (a0,y1.1.1,y1.1.2.1,())).bind fun(y4:YH_6)=>bif(midx ti9.zero.t (v0_4.getD []) y2.1.1).isSome then(midx ti9.zero.t (v0_4.getD []) y2.1.1).bind fun(y5:Nat)=>(lget (v0_4.getD []) y5).bind fun(y6:ByteArray×Option YH_11×List YH_9×List Int×Unit)=>(call 175 s_impl_tally_add (y6.2,y4.1.1,())).bind fun(y7:Unit×YH_5×Unit)=>bif(midx ti9.zero.t ((some (mset (v0_4.getD []) y5 y7.2.1)).getD []) y2.1.1).isSome then(midx ti9.zero.t ((some (mset (v0_4.getD []) y5 y7.2.1)).getD []) y2.1.1).bind fun(y8:Nat)=>(lget ((some (mset (v0_4.getD []) y5 y7.2.1)).getD []) y8).bind fun(y9:ByteArray×Option YH_11×List YH_9×List Int×Unit)=>r0 (max v0_2 (↑(List.length y9.2.2.1):Int)) (i64.wrap (v0_3+1)) (some (mset (v0_4.getD []) y5 y7.2.1))else none else none else v0_4.bind fun(y10:List (ByteArray×Option YH_11×List YH_9×List Int×Unit))=>(call 162 s_impl_ran (a0,y1.1.1,y1.1.2.1,())).bind fun(y11:YH_6)=>bif(midx ti9.zero.t ((some (mput ti9.zero.t y10 y2.1.1 (none,[],[],()))).getD []) y2.1.1).isSome then(midx ti9.zero.t ((some (mput ti9.zero.t y10 y2.1.1 (none,[],[],()))).getD []) y2.1.1).bind fun(y12:Nat)=>(lget ((some (mput ti9.zero.t y10 y2.1.1 (none,[],[],()))).getD []) y12).bind fun(y13:ByteArray×Option YH_11×List YH_9×List Int×Unit)=>(call 175 s_impl_tally_add (y13.2,y11.1.1,())).bind fun(y14:Unit×YH_5×Unit)=>bif(midx ti9.zero.t ((some (mset ((some (mput ti9.zero.t y10 y2.1.1 (none,[],[],()))).getD []) y12 y14.2.1)).getD []) y2.1.1).isSome then(midx ti9.zero.t ((some (mset ((some (mput ti9.zero.t y10 y2.1.1 (none,[],[],()))).getD []) y12 y14.2.1)).getD []) y2.1.1).bind fun(y15:Nat)=>(lget ((some (mset ((some (mput ti9.zero.t y10 y2.1.1 (none,[],[],()))).getD []) y12 y14.2.1)).getD []) y15).bind fun(y16:ByteArray×Option YH_11×List YH_9×List Int×Unit)=>r0 (max v0_2 (↑(List.length y16.2.2.1):Int)) (i64.wrap (v0_3+1)) (some (mset ((some (mput ti9.zero.t y10 y2.1.1 (none,[],[],()))).getD []) y12 y14.2.1))else none else none else some ((v0_2,()),())
def L0(call:Cl)(k:Nat)(a0:YH_1)(a1:YH_14):Nat→(Int)→(Int)→YH_3→Option R|0,_,_,_=>none|n+1,v0_2,v0_3,v0_4=>step0 call k a0 a1 (L0 call k a0 a1 n) v0_2 v0_3 v0_4
def Fm(call:Cl)(k:Nat)(l0:YH_0→(YH_14)→(Int)→(Int)→YH_3→Option R)(a0:YH_1)(a1:YH_14):Option R:=l0 a0 a1 0 0 (some [])
def F(call:Cl)(k:Nat)(a0:YH_1)(a1:YH_14):Option R:=Fm call k (fun a0_ a1_ v0_2_ v0_3_ v0_4_=>L0 call k a0_ a1_ k v0_2_ v0_3_ v0_4_) a0 a1
theorem L0_eq(call:Cl)(k:Nat)(J:Nat→St→Option R)(a0:YH_1)(a1:YH_14):∀(n:Nat)(x:YH_2),siteI E call n_impl_mostOver__impl_MostFor_1 k s_impl_mostOver__impl_MostFor_1 (a0,a1,()) J 0 n (S0 a0 a1 x.1 x.2.1 x.2.2)=L0 call k a0 a1 n x.1 x.2.1 x.2.2:=by
  refine loop_eq (s:=s_impl_mostOver__impl_MostFor_1) (fun x=>S0 a0 a1 x.1 x.2.1 x.2.2) (fun n x=>L0 call k a0 a1 n x.1 x.2.1 x.2.2) (fun r x=>step0 call k a0 a1 (fun v0_2 v0_3 v0_4=>r (v0_2,v0_3,v0_4)) x.1 x.2.1 x.2.2) (fun _=>rfl) (fun _ _=>rfl) fun J0 x=>?_
  kernel_rfl
theorem F_eq(call:Cl)(k:Nat)(a0:YH_1)(a1:YH_14):bodyK E call n_impl_mostOver__impl_MostFor_1 k s_impl_mostOver__impl_MostFor_1 (a0,a1,())=F call k a0 a1:=by
  exact Eq.trans (b:=Fm call k (fun a0 a1 v0_2_ v0_3_ v0_4_=>siteI E call n_impl_mostOver__impl_MostFor_1 k s_impl_mostOver__impl_MostFor_1 (a0,a1,()) (fun _ _=>none) 0 k (S0 a0 a1 v0_2_ v0_3_ v0_4_)) a0 a1) (by kernel_rfl) (congrArg (fun l=>Fm call k l a0 a1) (funext fun a0=>funext fun a1=>funext fun v0_2_=>funext fun v0_3_=>funext fun v0_4_=>L0_eq call k (fun _ _=>none) a0 a1 k (v0_2_,v0_3_,v0_4_)))
end impl_mostOver__impl_MostFor_1
namespace impl_MostFor
abbrev R:=((Int×Unit)×Unit)
def Fm(call:Cl)(k:Nat)(a0:YH_1)(a1:Int):Option R:=(call 98 s_impl_ProgOk (a0,())).bind fun(y0:YH_12×Unit)=>bif !y0.1.1 then some (((-1),()),())else bif decide (a1<0)then some (((-1),()),())else bif decide (a1≥(↑(List.length a0.2.2.1):Int))then some (((-1),()),())else(call 12500118 s_impl_mostOver__impl_MostFor_1 (a0,(a1,()),())).bind fun(y1:YH_13×Unit)=>some ((y1.1.1,()),())
def F(call:Cl)(k:Nat)(a0:YH_1)(a1:Int):Option R:=Fm call k a0 a1
theorem F_eq(call:Cl)(k:Nat)(a0:YH_1)(a1:Int):bodyK E call n_impl_MostFor k s_impl_MostFor (a0,a1,())=F call k a0 a1:=by kernel_rfl
end impl_MostFor
namespace spec_l8Most
abbrev R:=((Int×Unit)×Unit)
def S1(a0:YH_1)(a1:(List Bool))(y0:YH_7)(v0_3:Int)(v0_4:Int)(v1_5:Bool)(v1_6:Int):St:=⟨mkS 61 [(1,.v (.slc .bool) (a1)),(2,.p [500002] [] 0),(5,.v (.slc (.slc tI)) (y0.1.1)),(6,.v (.slc (.pair (.slc tI) tTm)) (y0.1.2.1)),(7,.v tI (v0_3)),(8,.v tI (v0_4)),(9,.v .bool v1_5),(10,.v tI v1_6)],[([500002],.box (.v tPg ((a0.1),((a0.2.1),((a0.2.2.1),((a0.2.2.2.1),((a0.2.2.2.2.1),((a0.2.2.2.2.2.1),()))))))))]⟩
def S0(a0:YH_1)(a1:(List Bool))(y0:YH_7)(v0_3:Int)(v0_4:Int):St:=⟨mkS 61 [(1,.v (.slc .bool) (a1)),(2,.p [500002] [] 0),(5,.v (.slc (.slc tI)) (y0.1.1)),(6,.v (.slc (.pair (.slc tI) tTm)) (y0.1.2.1)),(7,.v tI v0_3),(8,.v tI v0_4)],[([500002],.box (.v tPg ((a0.1),((a0.2.1),((a0.2.2.1),((a0.2.2.2.1),((a0.2.2.2.2.1),((a0.2.2.2.2.2.1),()))))))))]⟩
def step1(call:Cl)(k:Nat)(a0:YH_1)(a1:(List Bool))(y0:YH_7)(v0_3:Int)(v0_4:Int)(r0:(Int)→(Int)→Option R)(r1:(Bool)→(Int)→Option R)(v1_5:Bool)(v1_6:Int):Option R:=bif decide (v1_6<(↑a1.length:Int))then bif decide (0≤v1_6)then(lget a1 v1_6.toNat).bind fun(y1:Bool)=>bif y1 then bif decide (0≤v0_4)then(lget y0.1.1 v0_4.toNat).bind fun(y2:List Int)=>bif decide (0≤i64.wrap ((↑a0.2.1.length:Int)+v1_6))then(lget y2 (i64.wrap ((↑a0.2.1.length:Int)+v1_6)).toNat).bind fun(y3:Int)=>bif y3 !=0 then r1 false (i64.wrap (v1_6+1))else r1 v1_5 (i64.wrap (v1_6+1))else none else none else r1 v1_5 (i64.wrap (v1_6+1))else none else bif v1_5 then bif decide (0≤v0_4)then(lget y0.1.1 v0_4.toNat).bind fun(y4:List Int)=>(call 111 s_spec_l8All (a0,y0.1.1,y0.1.2.1,y4,a1,())).bind fun(y5:((List YH_9×Unit)×Unit))=>(call 110 s_spec_l8Different (y5.1.1,())).bind fun(y6:((List YH_9×Unit)×Unit))=>(call 172 s_spec_l1Max (v0_3,(↑(List.length y6.1.1):Int),())).bind fun(y7:YH_13×Unit)=>r0 y7.1.1 (i64.wrap (v0_4+1))else none else r0 v0_3 (i64.wrap (v0_4+1))
def L1(call:Cl)(k:Nat)(a0:YH_1)(a1:(List Bool))(y0:YH_7)(v0_3:Int)(v0_4:Int)(r0:(Int)→(Int)→Option R):Nat→(Bool)→(Int)→Option R|0,_,_=>none|n+1,v1_5,v1_6=>step1 call k a0 a1 y0 v0_3 v0_4 r0 (L1 call k a0 a1 y0 v0_3 v0_4 r0 n) v1_5 v1_6
def step0(call:Cl)(k:Nat)(y0:YH_7)(a0:YH_1)(a1:(List Bool))(l1:YH_0→((List Bool))→YH_7→(Int)→(Int)→(Bool)→(Int)→Option R)(r0:(Int)→(Int)→Option R)(v0_3:Int)(v0_4:Int):Option R:=bif decide (v0_4<(↑(List.length y0.1.1):Int))then l1 a0 a1 y0 v0_3 v0_4 true 0 else some ((v0_3,()),())
def L0(call:Cl)(k:Nat)(y0:YH_7)(a0:YH_1)(a1:(List Bool)):Nat→(Int)→(Int)→Option R|0,_,_=>none|n+1,v0_3,v0_4=>step0 call k y0 a0 a1 (fun a0_ a1_ y0_ v0_3_ v0_4_ v1_5_ v1_6_=>L1 call k a0_ a1_ y0_ v0_3_ v0_4_ (L0 call k y0 a0 a1 n) k v1_5_ v1_6_) (L0 call k y0 a0 a1 n) v0_3 v0_4
def Fm(call:Cl)(k:Nat)(l0:YH_7→YH_0→((List Bool))→(Int)→(Int)→Option R)(a0:YH_1)(a1:(List Bool)):Option R:=(call 106 s_spec_l8Table (a0,())).bind fun(y0:((List (List Int)×List YH_9×Unit)×Unit))=>l0 y0 a0 a1 0 0
def F(call:Cl)(k:Nat)(a0:YH_1)(a1:(List Bool)):Option R:=Fm call k (fun y0_ a0_ a1_ v0_3_ v0_4_=>L0 call k y0_ a0_ a1_ k v0_3_ v0_4_) a0 a1
theorem L1_eq(call:Cl)(k:Nat)(J:Nat→St→Option R)(a0:YH_1)(a1:(List Bool))(y0:YH_8)(v0_3:Int)(v0_4:Int):∀(n:Nat)(x:((Bool)×(Int))),siteI E call n_spec_l8Most k s_spec_l8Most (a0,a1,()) J 1 n (S1 a0 a1 y0 v0_3 v0_4 x.1 x.2)=L1 call k a0 a1 y0 v0_3 v0_4 (fun v0_3_ v0_4_=>J 0 (S0 a0 a1 y0 v0_3_ v0_4_)) n x.1 x.2:=by
  refine loop_eq (s:=s_spec_l8Most) (fun x=>S1 a0 a1 y0 v0_3 v0_4 x.1 x.2) (fun n x=>L1 call k a0 a1 y0 v0_3 v0_4 (fun v0_3_ v0_4_=>J 0 (S0 a0 a1 y0 v0_3_ v0_4_)) n x.1 x.2) (fun r x=>step1 call k a0 a1 y0 v0_3 v0_4 (fun v0_3_ v0_4_=>J 0 (S0 a0 a1 y0 v0_3_ v0_4_)) (fun v1_5 v1_6=>r (v1_5,v1_6)) x.1 x.2) (fun _=>rfl) (fun _ _=>rfl) fun J0 x=>?_
  kernel_rfl
theorem L0_eq(call:Cl)(k:Nat)(J:Nat→St→Option R)(a0:YH_1)(a1:(List Bool))(y0:YH_8):∀(n:Nat)(x:((Int)×(Int))),siteI E call n_spec_l8Most k s_spec_l8Most (a0,a1,()) J 0 n (S0 a0 a1 y0 x.1 x.2)=L0 call k y0 a0 a1 n x.1 x.2:=by
  refine loop_eq (s:=s_spec_l8Most) (fun x=>S0 a0 a1 y0 x.1 x.2) (fun n x=>L0 call k y0 a0 a1 n x.1 x.2) (fun r x=>step0 call k y0 a0 a1 (fun(a0:YH_1)(a1:(List Bool))(y0:YH_8)(v0_3:Int)(v0_4:Int)(v1_5_:Bool)(v1_6_:Int)=>L1 call k a0 a1 y0 v0_3 v0_4 (fun v0_3_ v0_4_=>r (v0_3_,v0_4_)) k v1_5_ v1_6_) (fun v0_3 v0_4=>r (v0_3,v0_4)) x.1 x.2) (fun _=>rfl) (fun _ _=>rfl) fun J0 x=>?_
  refine Eq.trans (b:=step0 call k y0 a0 a1 (fun a0 a1 y0 v0_3 v0_4 v1_5_ v1_6_=>siteI E call n_spec_l8Most k s_spec_l8Most (a0,a1,()) (upJ 0 J0 J) 1 k (S1 a0 a1 y0 v0_3 v0_4 v1_5_ v1_6_)) (fun v0_3 v0_4=>J0 (S0 a0 a1 y0 v0_3 v0_4)) x.1 x.2) (by kernel_rfl) ?_;rw[show(fun(a0:YH_1)(a1:(List Bool))(y0:YH_8)(v0_3:Int)(v0_4:Int)(v1_5_:Bool)(v1_6_:Int)=>siteI E call n_spec_l8Most k s_spec_l8Most (a0,a1,()) (upJ 0 J0 J) 1 k (S1 a0 a1 y0 v0_3 v0_4 v1_5_ v1_6_))=(fun(a0:YH_1)(a1:(List Bool))(y0:YH_8)(v0_3:Int)(v0_4:Int)(v1_5_:Bool)(v1_6_:Int)=>L1 call k a0 a1 y0 v0_3 v0_4 (fun v0_3_ v0_4_=>(upJ 0 J0 J) 0 (S0 a0 a1 y0 v0_3_ v0_4_)) k v1_5_ v1_6_)from funext fun a0=>funext fun a1=>funext fun y0=>funext fun v0_3=>funext fun v0_4=>funext fun v1_5_=>funext fun v1_6_=>L1_eq call k (upJ 0 J0 J) a0 a1 y0 v0_3 v0_4 k (v1_5_,v1_6_)]
  all_goals rfl
theorem F_eq(call:Cl)(k:Nat)(a0:YH_1)(a1:(List Bool)):bodyK E call n_spec_l8Most k s_spec_l8Most (a0,a1,())=F call k a0 a1:=by
  exact Eq.trans (b:=Fm call k (fun y0 a0 a1 v0_3_ v0_4_=>siteI E call n_spec_l8Most k s_spec_l8Most (a0,a1,()) (fun _ _=>none) 0 k (S0 a0 a1 y0 v0_3_ v0_4_)) a0 a1) (by kernel_rfl) (congrArg (fun l=>Fm call k l a0 a1) (funext fun y0=>funext fun a0=>funext fun a1=>funext fun v0_3_=>funext fun v0_4_=>L0_eq call k (fun _ _=>none) a0 a1 y0 k (v0_3_,v0_4_)))
end spec_l8Most
namespace spec_MostFor
abbrev R:=((Int×Unit)×Unit)
def Fm(call:Cl)(k:Nat)(a0:YH_1)(a1:Int):Option R:=(call 87 s_spec_ProgOk (a0,())).bind fun(y0:YH_12×Unit)=>bif !y0.1.1 then some (((-1),()),())else(call 123 s_spec_l1In (a1,0,i64.wrap ((↑(List.length a0.2.2.1):Int)-1),())).bind fun(y1:YH_12×Unit)=>bif !y1.1.1 then some (((-1),()),())else bif decide ((↑(List.length a0.2.2.1):Int)=(↑(List.length a0.2.2.1):Int))&&decide (0≤(↑(List.length a0.2.2.1):Int))&&decide ((↑(List.length a0.2.2.1):Int)*(↑ti4.bytes:Int)≤281474976710656)then bif decide (0≤a1)&&decide (a1.toNat<(List.replicate (↑(List.length a0.2.2.1):Int).toNat false).length)then(lget (List.replicate (↑(List.length a0.2.2.1):Int).toNat false) a1.toNat).bind fun(y2:Bool)=>(call 115 s_spec_l8Most (a0,(List.replicate (↑(List.length a0.2.2.1):Int).toNat false).set a1.toNat true,())).bind fun(y3:YH_13×Unit)=>some ((y3.1.1,()),())else none else none
def F(call:Cl)(k:Nat)(a0:YH_1)(a1:Int):Option R:=Fm call k a0 a1
theorem F_eq(call:Cl)(k:Nat)(a0:YH_1)(a1:Int):bodyK E call n_spec_MostFor k s_spec_MostFor (a0,a1,())=F call k a0 a1:=by kernel_rfl
end spec_MostFor
end Go.Proofs.YtjgfofcgmcnblaaGreat.Pf
namespace Go.Proofs.YtjgfofcgmcnblaaGreat.Pf
open Go Go.Pv
abbrev Gm:=List (ByteArray×Tly)
theorem midx_mset(k:Ty){β:Type}:∀(l:List (k.den×β))(i:Nat)(y:β)(x:k.den),midx k (mset l i y) x=midx k l x
  |[],_,_,_=>rfl
  |e::l,0,y,x=>rfl
  | e::l,i+1,y,x=>by
    show(bif eqV k x e.1 then some 0 else(midx k (mset l i y) x).map Nat.succ)=_
    rw[midx_mset k l];rfl
theorem mset_len {α β:Type}:∀(l:List (α×β))(i:Nat)(y:β),(mset l i y).length=l.length
  |[],_,_=>rfl
  |e::l,0,y=>rfl
  |e::l,i+1,y=>congrArg Nat.succ (mset_len l i y)
theorem mset_get {α β:Type}:∀(l:List (α×β))(i:Nat)(y:β)(j:Nat)(h:j<(mset l i y).length)(h2:j<l.length),(mset l i y)[j]=if j=i then(l[j].1,y)else l[j]
  |[],_,_,_,_,h=>by cases h
  |e::l,0,y,0,_,_=>rfl
  |e::l,0,y,j+1,_,_=>rfl
  |e::l,i+1,y,0,_,_=>rfl
  | e::l,i+1,y,j+1,h,h2=>by
    have hh:j<(mset l i y).length:=by simpa[mset]using h
    have:=mset_get l i y j hh (by simpa using h2);show(mset l i y)[j]'hh=_
    rw[this];by_cases c:j=i
    . rw[if_pos c,if_pos (by omega)];rfl
    . rw[if_neg c,if_neg (by omega)];rfl
theorem midx_lt:∀{l:Gm}{x:ByteArray}{i:Nat},midx .str l x=some i→∃h:i<l.length,l[i].1=x
  |[],x,i,h=>by cases h
  | (a,b)::l,x,i,h=>by
    have h:(bif eqV .str x a then some 0 else(midx .str l x).map Nat.succ)=some i:=h;cases e:eqV .str x a
    . rw[e]at h;have h:(midx .str l x).map Nat.succ=some i:=h;obtain⟨j,hj,rfl⟩:=Option.map_eq_some_iff.1 h;obtain⟨h1,h2⟩:=midx_lt hj;exact⟨by simpa using h1,by simpa using h2⟩
    . rw[e]at h;cases h;exact⟨by simp,(eqS.1 e).symm⟩
theorem put_new:∀{l:Gm}{x:ByteArray}{v:Tly},midx .str l x=none→mput .str l x v=l++[(x,v)]
  |[],x,v,_=>rfl
  | (a,b)::l,x,v,h=>by
    have h:(bif eqV .str x a then some 0 else(midx .str l x).map Nat.succ)=none:=h;show(bif eqV .str x a then(x,v)::l else(a,b)::mput .str l x v)=_
    cases e:eqV .str x a
    . rw[e]at h;have h:(midx .str l x).map Nat.succ=none:=h;have h2:=put_new (v:=v) (Option.map_eq_none_iff.1 h);show(a,b)::mput .str l x v=_
      rw[h2];rfl
    . rw[e]at h;cases h
theorem midx_app:∀{l:Gm}{x y:ByteArray}{v:Tly},midx .str (l++[(x,v)]) y=match midx .str l y with|some i=>some i|none=>if x=y then some l.length else none
  | [],x,y,v=>by
    show(bif eqV .str y x then some 0 else none)=if x=y then some 0 else none
    by_cases c:x=y
    . rw[if_pos c,eqS.2 c.symm];rfl
    . rw[if_neg c];cases e:eqV .str y x
      . rfl
      . exact absurd (eqS.1 e).symm c
  | (a, b)::l,x,y,v=>by
    show(bif eqV .str y a then some 0 else(midx .str (l++[(x,v)]) y).map Nat.succ)=match(bif eqV .str y a then some 0 else(midx .str l y).map Nat.succ)with|some i=>some i|none=>if x=y then some (l.length+1)else none
    cases e:eqV .str y a
    . rw[midx_app];show Option.map Nat.succ _=match(midx .str l y).map Nat.succ with|some i=>some i|none=>_
      cases midx .str l y with
      |some i=>rfl
      | none=>
        show Option.map Nat.succ (if x=y then some l.length else none)=if x=y then some (l.length+1)else none
        split<;>rfl
    . rfl
def GI(es:Gm)(G:ByteArray→List Oc):Prop:=∀x,(midx .str es x=none→G x=[])∧∀i,midx .str es x=some i→∃h:i<es.length,TlI es[i].2 (tal [] (G x))
theorem GI.put {es:Gm}{G:ByteArray→List Oc}(h:GI es G){x:ByteArray}{i:Nat}(hi:midx .str es x=some i){o:Oc}{st:Tly}(hs:TlI st (tal [] (G x++[o]))){G':ByteArray→List Oc}(h1:G' x=G x++[o])(h2:∀y,y≠x→G' y=G y):GI (mset es i st) G':=by
  obtain⟨hl,hx⟩:=midx_lt hi;intro y;rw[midx_mset];by_cases c:y=x
  . subst c;refine⟨(fun e=>by rw[hi]at e;cases e),fun j hj=>?_⟩;rw[hi]at hj;cases hj;refine⟨by rw[mset_len];exact hl,?_⟩;rw[mset_get es i st i (by rw[mset_len];exact hl) hl,if_pos rfl,h1];exact hs
  . rw[h2 y c];refine⟨(h y).1,fun j hj=>?_⟩;obtain⟨j1,j2⟩:=(h y).2 j hj;refine⟨by rw[mset_len];exact j1,?_⟩;have ne:j≠i:=fun e=>by
      obtain⟨_,e2⟩:=midx_lt hj;subst e;exact c (e2.symm.trans hx)
    rw[mset_get es i st j (by rw[mset_len];exact j1) j1,if_neg ne];exact j2
theorem GI.new {es:Gm}{G:ByteArray→List Oc}(h:GI es G){x:ByteArray}(hn:midx .str es x=none):GI (es++[(x,(none,[],[],()))]) G:=by
  intro y;rw[midx_app];cases e:midx .str es y with
  | some i=>
    refine⟨(fun e=>by cases e),fun j hj=>?_⟩;cases hj;obtain⟨j1,j2⟩:=(h y).2 i e;refine⟨by rw[List.length_append];omega,?_⟩;rw[List.getElem_append_left j1];exact j2
  | none=>
    show((if x=y then some es.length else none)=none→G y=[])∧∀i,(if x=y then some es.length else none)=some i→_
    refine⟨fun _=>(h y).1 e,fun j hj=>?_⟩;by_cases c:x=y
    . rw[if_pos c]at hj;cases hj;refine⟨by rw[List.length_append];exact Nat.lt_succ_self _,?_⟩;rw[List.getElem_append_right (Nat.le_refl _),(h y).1 e];simp only[Nat.sub_self,List.getElem_cons_zero];exact TlI.nil
    . rw[if_neg c]at hj;cases hj
noncomputable def gous(p:Pg)(t:Fs)(kf:Nat→ByteArray)(x:ByteArray)(n:Nat):List Oc:=((List.range n).filter fun m=>bo (kf m=x)).map fun m=>oc p t (inA p m)
theorem gous_t {p:Pg}{t:Fs}{kf:Nat→ByteArray}{n:Nat}:gous p t kf (kf n) (n+1)=gous p t kf (kf n) n++[oc p t (inA p n)]:=by
  unfold gous;rw[List.range_succ,List.filter_append,List.map_append,List.filter_cons_of_pos (by exact bo_t rfl)];rfl
theorem gous_f {p:Pg}{t:Fs}{kf:Nat→ByteArray}{n:Nat}{x:ByteArray}(h:x≠kf n):gous p t kf x (n+1)=gous p t kf x n:=by
  unfold gous;rw[List.range_succ,List.filter_append,List.map_append,List.filter_cons_of_neg (by rw[bo_f (fun e=>h e.symm)];exact Bool.false_ne_true)];exact List.append_nil _
theorem gous_len(p:Pg)(t:Fs)(kf:Nat→ByteArray)(x:ByteArray)(n:Nat):(gous p t kf x n).length≤n:=by
  unfold gous;rw[List.length_map];have:=List.length_filter_le (fun m=>bo (kf m=x)) (List.range n);rw[List.length_range]at this;exact this
noncomputable def moF(p:Pg)(t:Fs)(kf:Nat→ByteArray):Nat→Int
  |0=>0
  |n+1=>max (moF p t kf n) ((ddF [] (gous p t kf (kf n) (n+1))).length:Int)
def Rep0(p:Pg)(free:List Bool)(a:List Int)(i:Nat):Prop:=∀k,i≤k→∀(h:k<free.length),free[k]=true→∀(h2:p.2.1.length+k<a.length),a[p.2.1.length+k]=0
noncomputable def msF(p:Pg)(t:Fs)(free:List Bool):Nat→Int
  |0=>0
  |n+1=>bif bo (Rep0 p free (inA p n) 0)then max (msF p t free n) ((ddF [] (fous p t (inA p n) free (cN p))).length:Int)else msF p t free n
theorem ms_succ(p:Pg)(t:Fs)(free:List Bool)(n:Nat):msF p t free (n+1)=bif bo (Rep0 p free (inA p n) 0)then max (msF p t free n) ((ddF [] (fous p t (inA p n) free (cN p))).length:Int)else msF p t free n:=rfl
theorem dd_mono:∀(acc a b:List Oc),(ddF acc a).length≤(ddF acc (a++b)).length
  | acc,[],b=>by
    show acc.length≤(ddF acc b).length
    induction b generalizing acc with
    |nil=>exact Nat.le_refl _
    | cons x b ih=>
      unfold ddF;split
      . exact ih acc
      . have:=ih (acc++[x]);rw[List.length_append]at this;exact Nat.le_trans (Nat.le_add_right _ _) this
  | acc,x::a,b=>by
    show(ddF acc (x::a)).length≤(ddF acc (x::(a++b))).length
    unfold ddF;split
    . exact dd_mono acc a b
    . exact dd_mono (acc++[x]) a b
theorem gous_pre(p:Pg)(t:Fs)(kf:Nat→ByteArray)(x:ByteArray)(n:Nat):∀d,∃b,gous p t kf x (n+d)=gous p t kf x n++b
  |0=>⟨[],(List.append_nil _).symm⟩
  | d+1=>by
    obtain⟨b,hb⟩:=gous_pre p t kf x n d;by_cases c:x=kf (n+d)
    . subst c;exact⟨b++[oc p t (inA p (n+d))],by rw[←Nat.add_assoc,gous_t,hb,List.append_assoc]⟩
    . exact⟨b,by rw[←Nat.add_assoc,gous_f c,hb]⟩
theorem gous_last(p:Pg)(t:Fs)(kf:Nat→ByteArray)(x:ByteArray):∀n,gous p t kf x n=[]∨∃m,m<n∧kf m=x∧gous p t kf x n=gous p t kf x (m+1)
  |0=>.inl rfl
  | n +1=>by
    by_cases c:x=kf n
    . exact .inr ⟨n,Nat.lt_succ_self n,c.symm,rfl⟩
    . rw[gous_f c];rcases gous_last p t kf x n with h|⟨m,h1,h2,h3⟩
      . exact .inl h
      . exact .inr ⟨m,by omega,h2,h3⟩
theorem mo_ge {p:Pg}{t:Fs}{kf:Nat→ByteArray}:∀{N n:Nat},n<N→((ddF [] (gous p t kf (kf n) (n+1))).length:Int)≤moF p t kf N
  | N+1,n,h=>by
    unfold moF;rcases Nat.lt_succ_iff_lt_or_eq.1 h with h|rfl
    . have:=mo_ge (p:=p) (t:=t) (kf:=kf) h;omega
    . omega
theorem mo_le {p:Pg}{t:Fs}{kf:Nat→ByteArray}{B:Int}(hB:0≤B):∀{N:Nat},(∀n,n<N→((ddF [] (gous p t kf (kf n) (n+1))).length:Int)≤B)→moF p t kf N≤B
  |0,_=>hB
  | N+1,h=>by
    have h1:=mo_le hB (N:=N) fun n hn=>h n (by omega)
    have h2:=h N (Nat.lt_succ_self N);unfold moF;omega
theorem ms_ge {p:Pg}{t:Fs}{free:List Bool}:∀{N n:Nat},n<N→Rep0 p free (inA p n) 0→((ddF [] (fous p t (inA p n) free (cN p))).length:Int)≤msF p t free N
  | N +1,n,h,hr=>by
    unfold msF;rcases Nat.lt_succ_iff_lt_or_eq.1 h with h|rfl
    . have:=ms_ge (t:=t) h hr;by_cases c:Rep0 p free (inA p N) 0
      . rw[bo_t c];show _≤max _ _;omega
      . rw[bo_f c];exact this
    . rw[bo_t hr];show _≤max _ _;omega
theorem ms_le {p:Pg}{t:Fs}{free:List Bool}{B:Int}(hB:0≤B):∀{N:Nat},(∀n,n<N→Rep0 p free (inA p n) 0→((ddF [] (fous p t (inA p n) free (cN p))).length:Int)≤B)→msF p t free N≤B
  |0,_=>hB
  | N+1,h=>by
    have h1:=ms_le hB (N:=N) fun n hn=>h n (by omega)
    unfold msF;by_cases c:Rep0 p free (inA p N) 0
    . have h2:=h N (Nat.lt_succ_self N) c;rw[bo_t c];show max _ _≤B;omega
    . rw[bo_f c];exact h1
theorem ms_pos(p:Pg)(t:Fs)(free:List Bool):∀N,0≤msF p t free N
  |0=>Int.le_refl _
  | N+1=>by
    have:=ms_pos p t free N;unfold msF;cases bo (Rep0 p free (inA p N) 0)
    . exact this
    . show 0≤max _ _;omega
theorem mo_pos(p:Pg)(t:Fs)(kf:Nat→ByteArray):∀N,0≤moF p t kf N
  |0=>Int.le_refl _
  | N+1=>by
    have:=mo_pos p t kf N;unfold moF;omega
theorem most_eq {p:Pg}{t:Fs}{free:List Bool}{kf:Nat→ByteArray}(HK:∀m n,kf m=kf n↔Ft p (inA p n) free m)(HR:∀n,n<cN p→∃r,r<cN p∧kf r=kf n∧Rep0 p free (inA p r) 0):moF p t kf (cN p)=msF p t free (cN p):=by
  have eF:∀n,fous p t (inA p n) free (cN p)=gous p t kf (kf n) (cN p):=fun n=>by
    unfold fous gous
    congr 1
    exact List.filter_congr fun m _=>bo_congr (HK m n).symm
  refine Int.le_antisymm (mo_le (ms_pos p t free _) fun n hn=>?_) (ms_le (mo_pos p t kf _) fun n hn hr=>?_)
  . obtain⟨r,r1,r2,r3⟩:=HR n hn;have h1:=ms_ge (t:=t) r1 r3;rw[eF r,r2]at h1;obtain⟨b,hb⟩:=gous_pre p t kf (kf n) (n+1) (cN p-(n+1));rw[show n+1+(cN p-(n+1))=cN p by omega]at hb;rw[hb]at h1;have h2:=dd_mono [] (gous p t kf (kf n) (n+1)) b;omega
  . rw[eF n];rcases gous_last p t kf (kf n) (cN p)with h|⟨m,m1,m2,m3⟩
    . rw[h];exact mo_pos p t kf _
    . rw[m3,←m2];exact mo_ge m1
theorem mo_bd(p:Pg)(t:Fs)(kf:Nat→ByteArray)(N:Nat):moF p t kf N≤N:=by
  refine mo_le (Int.natCast_nonneg N) fun n hn=>?_
  have h1:=dd_len [] (gous p t kf (kf n) (n+1));have h2:=gous_len p t kf (kf n) (n+1);simp only[List.length_nil]at h1;omega
theorem gous_ok {p:Pg}{t:Fs}(ht:Ok p t)(kf:Nat→ByteArray)(x:ByteArray)(n:Nat):Fews (gous p t kf x n):=fun o ho=>by
  obtain⟨m,_,rfl⟩:=List.mem_map.1 ho;exact oc_ok ht (inA_wi ht m)
def lkey(l:List Int):ByteArray:=bytesOf (l.map IntKind.u8.wrap)
theorem listKey_ans(l:List Int)(hl:l.length≤400):Ans n_impl_listKey s_impl_listKey (l,()) ((lkey l,()),()):=by
  refine Gv.ans (Gv.of (fun k=>impl_listKey.F_eq (cl k) k l) ?_);unfold impl_listKey.F impl_listKey.Fm;have t5:ti5.bytes=1:=rfl;have kk:∀(d j:Nat)(acc:List Int),l.length-j=d→acc.length+d≤400→Tq (d+1) (fun k q=>impl_listKey.L0 (cl k) k l q (j:Int) acc) (· =((bytesOf (acc++(l.drop j).map IntKind.u8.wrap),()),())):=by
    intro d
    induction d with
    | zero=>
      intro j acc hd h2;refine Tq.succ ?_;show Tq _ (fun k q=>impl_listKey.step0 (cl k) k ..) _
      unfold impl_listKey.step0;rw[List.drop_of_length_le (by omega),List.map_nil,List.append_nil];exact Tq.bf (dnlt (by omega)) (Tq.ret rfl)
    | succ d ih=>
      intro j acc hd h2;have hj:j<l.length:=by omega
      refine Tq.succ ?_;show Tq _ (fun k q=>impl_listKey.step0 (cl k) k ..) _
      unfold impl_listKey.step0;refine Tq.bt (dlt hj) (Tq.bt (dle0 _) (Tq.some (lg hj) (Tq.bt (apb (by rw[t5];simp only[List.length_cons,List.length_nil];omega)) ?_)));rw[ws hj (by omega),List.drop_eq_getElem_cons hj,List.map_cons];have:=ih (j+1) (acc++[IntKind.u8.wrap l[j]]) (by omega) (by simp;omega);rw[List.append_assoc acc,List.singleton_append]at this;exact this
  exact Tq.diag (kk _ 0 [] rfl (by simp;omega))
theorem bytes_app(a b:List Int):bytesOf a++bytesOf b=bytesOf (a++b):=by
  unfold bytesOf;apply ByteArray.ext;simp
theorem lkey_app(a b:List Int):lkey a++lkey b=lkey (a++b):=by
  unfold lkey;rw[bytes_app,List.map_append]
theorem lkey_inj {a b:List Int}(ha:∀x∈a,0≤x∧x≤255)(hb:∀x∈b,0≤x∧x≤255):lkey a=lkey b↔a=b:=by
  constructor
  . intro h;unfold lkey at h;rw[map_w8 ha,map_w8 hb]at h;exact bytesOf_inj ha hb h
  . intro h;rw[h]
theorem lkey_size {a:List Int}(h:a.length≤400):(lkey a).size≤400:=by
  unfold lkey bytesOf;show(List.toArray _).size≤400
  simp;exact h
section
variable {p:Pg}{t:Fs}(ht:Ok p t){free:List Bool}(hf:free.length=p.2.2.1.length)
include ht hf
theorem sMost_ans:Ans n_spec_l8Most s_spec_l8Most (p,free,()) ((msF p t free (cN p),()),()):=by
  have hp :=ht.hd.b;have hc:=(cN_bd ht).1;have l1:=ins_len p (cN p);refine Gv.ans (Gv.of (fun k=>spec_l8Most.F_eq (cl k) k p free) ?_);unfold spec_l8Most.F spec_l8Most.Fm;refine Tq.ba (table_ans ht) ?_;have k0:∀(d n:Nat),cN p-n=d→n≤cN p→Tq (d+1) (fun k q=>spec_l8Most.L0 (cl k) k ((ins p (cN p),ous p t (cN p),()),()) p free q (msF p t free n) (n:Int)) (· =((msF p t free (cN p),()),())):=by
    intro d
    induction d with
    | zero=>
      intro n hd hn;obtain rfl:n=cN p:=by omega
      refine Tq.succ ?_;show Tq _ (fun k q=>spec_l8Most.step0 (cl k) k ..) _
      unfold spec_l8Most.step0;exact Tq.bf (decide_eq_false (by dsimp only;rw[l1];omega)) (Tq.ret rfl)
    | succ d ih =>
      intro n hd hn;have hj1:n<(ins p (cN p)).length:=by omega
      have g1:=lg hj1;rw[ins_get hj1]at g1;have il:=inA_len ht n;refine Tq.succ ?_;show Tq _ (fun k q=>spec_l8Most.step0 (cl k) k ..) _
      unfold spec_l8Most.step0;refine Tq.bt (dlt hj1) ?_;have nxt:=ih (n+1) (by omega) (by omega);have key:∀(c i:Nat)(b:Bool),free.length-i=c→∀(m:Nat→Nat)(N:Nat),(∀k,N≤k→c+1≤m k)→(b&&bo (Rep0 p free (inA p n) i))=bo (Rep0 p free (inA p n) 0)→
          Tq (d+1) (fun k q=>spec_l8Most.L1 (cl k) k p free ((ins p (cN p),ous p t (cN p),()),()) (msF p t free n) (n:Int) (spec_l8Most.L0 (cl k) k ((ins p (cN p),ous p t (cN p),()),()) p free q) (m k) b (i:Int)) (· =((msF p t free (cN p),()),())):=by
        intro c
        induction c with
        | zero=>
          intro i b hc m N hm hb;refine Tq.fuel (F:=fun k q z=>spec_l8Most.L1 (cl k) k p free ((ins p (cN p),ous p t (cN p),()),()) (msF p t free n) (n:Int) (spec_l8Most.L0 (cl k) k ((ins p (cN p),ous p t (cN p),()),()) p free q) z b (i:Int)) (G:=fun k q z=>spec_l8Most.step1 (cl k) k p free ((ins p (cN p),ous p t (cN p),()),()) (msF p t free n) (n:Int) (spec_l8Most.L0 (cl k) k ((ins p (cN p),ous p t (cN p),()),()) p free q) (spec_l8Most.L1 (cl k) k p free ((ins p (cN p),ous p t (cN p),()),()) (msF p t free n) (n:Int) (spec_l8Most.L0 (cl k) k ((ins p (cN p),ous p t (cN p),()),()) p free q) z) b (i:Int)) (fun _ _ _=>rfl) hm ?_;unfold spec_l8Most.step1;rw[bo_t (P:=Rep0 p free (inA p n) i) (fun k hk h=>by omega),Bool.and_true]at hb;refine Tq.bf (dnlt (by omega)) ?_;rw[ws (n:=cN p) (by omega) (by omega)];rw[ms_succ,←hb]at nxt;cases b with
          | true=>
            have hA:=l8All_ans ht (b:=inA p n) (free:=free) il hf;have fl:=fous_len p t (inA p n) free (cN p);exact Tq.bt rfl (Tq.bt (dle0 _) (Tq.some g1 (Tq.ba hA (Tq.ba (diff_ans (l:=fous p t (inA p n) free (cN p)) (fous_ok ht _ _ _) (by omega)) (Tq.ba (l1Max_ans _ _) nxt)))))
          |false=>exact Tq.bf rfl nxt
        | succ c ihc=>
          intro i b hc m N hm hb;have hi:i<free.length:=by omega
          refine Tq.fuel (F:=fun k q z=>spec_l8Most.L1 (cl k) k p free ((ins p (cN p),ous p t (cN p),()),()) (msF p t free n) (n:Int) (spec_l8Most.L0 (cl k) k ((ins p (cN p),ous p t (cN p),()),()) p free q) z b (i:Int)) (G:=fun k q z=>spec_l8Most.step1 (cl k) k p free ((ins p (cN p),ous p t (cN p),()),()) (msF p t free n) (n:Int) (spec_l8Most.L0 (cl k) k ((ins p (cN p),ous p t (cN p),()),()) p free q) (spec_l8Most.L1 (cl k) k p free ((ins p (cN p),ous p t (cN p),()),()) (msF p t free n) (n:Int) (spec_l8Most.L0 (cl k) k ((ins p (cN p),ous p t (cN p),()),()) p free q) z) b (i:Int)) (fun _ _ _=>rfl) (fun k hk=>by have:=hm k hk;omega) ?_;unfold spec_l8Most.step1;refine Tq.bt (dlt hi) (Tq.bt (dle0 _) (Tq.some (lg hi) ?_));have go:∀b',(b'&&bo (Rep0 p free (inA p n) (i+1)))=bo (Rep0 p free (inA p n) 0)→Tq (d+1) (fun k q=>spec_l8Most.L1 (cl k) k p free ((ins p (cN p),ous p t (cN p),()),()) (msF p t free n) (n:Int) (spec_l8Most.L0 (cl k) k ((ins p (cN p),ous p t (cN p),()),()) p free q) (m k-1) b' (IntKind.i64.wrap ((i:Int)+1))) (· =((msF p t free (cN p),()),())):=by
            intro b' hb';rw[ws hi (by omega)];exact ihc (i+1) b' (by omega) _ N (fun k hk=>by have:=hm k hk;omega) hb'
          have nx:(free[i]=true→∀(h2:p.2.1.length+i<(inA p n).length),(inA p n)[p.2.1.length+i]=0)→(Rep0 p free (inA p n) i↔Rep0 p free (inA p n) (i+1)):=fun H=>by
            constructor
            . exact fun e k hk=>e k (by omega)
            . intro e k hk;rcases Nat.lt_or_ge i k with h|h
              . exact e k h
              . obtain rfl:k=i:=by omega
                exact fun _=>H
          cases c3:free[i]
          . rw[bo_congr (nx fun e=>by rw[c3]at e;cases e)]at hb;exact Tq.bf rfl (go b hb)
          . have e:IntKind.i64.wrap ((p.2.1.length:Int)+(i:Int))=((p.2.1.length+i:Nat):Int):=by rw[w64 (by omega) (by omega)];omega
            have hi2:p.2.1.length+i<(inA p n).length:=by omega
            refine Tq.bt rfl (Tq.bt (dle0 _) (Tq.some g1 ?_));rw[e];refine Tq.bt (dle0 _) (Tq.some (lg hi2) ?_);by_cases c4:(inA p n)[p.2.1.length+i]=0
            . rw[bo_congr (nx fun _ _=>c4)]at hb;exact Tq.bf (bne_eq_false_iff_eq.2 c4) (go b hb)
            . rw[bo_f (P:=Rep0 p free (inA p n) i) (fun e=>c4 (e i (Nat.le_refl _) hi c3 hi2)),Bool.and_false]at hb;exact Tq.bt (bne_iff_ne.2 c4) (go false (by rw[←hb];rfl))
      exact key free.length 0 true rfl (fun k=>k) (free.length+1) (fun k hk=>hk) (by rw[Bool.true_and])
  exact Tq.diag (k0 (cN p) 0 rfl (Nat.zero_le _))
end
theorem mostF_gv {p:Pg}{t:Fs}(ht:Ok p t){i:Int}{kf:Nat→ByteArray}(hk:∀n,n<cN p→Ans n_impl_MostFor_1 s_impl_MostFor_1 ((inA p n).take p.2.1.length,(inA p n).drop p.2.1.length,i,()) ((kf n,()),())):
    Ans n_impl_mostOver__impl_MostFor_1 s_impl_mostOver__impl_MostFor_1 (p,(i,()),()) ((moF p t kf (cN p),()),()):=by
  obtain ⟨hc,ec⟩:=cN_bd ht;have hM:=many_ans ht.hd;refine Gv.ans (Gv.of (fun k=>impl_mostOver__impl_MostFor_1.F_eq (cl k) k p (i,())) ?_);unfold impl_mostOver__impl_MostFor_1.F impl_mostOver__impl_MostFor_1.Fm;have key:∀(d n:Nat)(es:Gm),cN p-n=d→n≤cN p→GI es (fun x=>gous p t kf x n)→Tq (d+1) (fun k q=>impl_mostOver__impl_MostFor_1.L0 (cl k) k p (i,()) q (moF p t kf n) (n:Int) (some es)) (· =((moF p t kf (cN p),()),())):=by
    intro d
    induction d with
    | zero=>
      intro n es hd hn hG;obtain rfl:n=cN p:=by omega
      refine Tq.succ ?_;show Tq _ (fun k q=>impl_mostOver__impl_MostFor_1.step0 (cl k) k ..) _
      unfold impl_mostOver__impl_MostFor_1.step0;exact Tq.ba hM (Tq.bf (decide_eq_false (by dsimp only;omega)) (Tq.ret rfl))
    | succ d ih=>
      intro n es hd hn hG;have hB:Bd (tal [] (gous p t kf (kf n) n)) (0+(gous p t kf (kf n) n).length):=tal_bd (bd0 ht) (gous_ok ht kf _ n);have gl:=gous_len p t kf (kf n) n;have oo:=oc_ok ht (inA_wi ht n);have fin:∀(es1:Gm),GI es1 (fun x=>gous p t kf x n)→∀i(hi:midx .str es1 (kf n)=some i)(st:Tly),TlI st (tal [] (gous p t kf (kf n) n++[oc p t (inA p n)]))→
          (midx .str (mset es1 i st) (kf n)).isSome=true∧midx .str (mset es1 i st) (kf n)=some i∧lget (mset es1 i st) i=some (kf n,st)∧max (moF p t kf n) (st.2.1.length:Int)=moF p t kf (n+1)∧GI (mset es1 i st) (fun x=>gous p t kf x (n+1)):=by
        intro es1 h1 i hi st hs;obtain⟨hl,hx⟩:=midx_lt hi;have e1:midx .str (mset es1 i st) (kf n)=some i:=by rw[midx_mset];exact hi
        have hl2:i<(mset es1 i st).length:=by rw[mset_len];exact hl
        refine⟨by rw[e1];rfl,e1,?_,?_,h1.put hi hs gous_t (fun y hy=>gous_f hy)⟩
        . rw[lgn hl2,mset_get es1 i st i hl2 hl,if_pos rfl,hx]
        . rw[hs.list,tal_fst,←gous_t];rfl
      refine Tq.succ ?_;show Tq _ (fun k q=>impl_mostOver__impl_MostFor_1.step0 (cl k) k ..) _
      unfold impl_mostOver__impl_MostFor_1.step0;refine Tq.ba hM (Tq.bt (decide_eq_true (by dsimp only;omega)) (Tq.ba (inputOf_ans ht (by omega)) (Tq.ba (hk n (by omega)) ?_)));rw[ws (n:=cN p) (by omega) (by omega)];cases hm:midx .str es (kf n)with
      | some i=>
        have hm1:midx ti9.zero.t ((some es).getD []) (kf n)=some i:=hm;obtain⟨hl,hT⟩:=(hG (kf n)).2 i hm;obtain⟨_,hx⟩:=midx_lt hm;refine Tq.bt (by show(midx ti9.zero.t ((some es).getD []) (kf n)).isSome=true;rw[hm1];rfl) (Tq.some hm1 (Tq.bind (runIn_gv ht n).tq ?_));rintro⟨⟨o,v,⟨⟩⟩,⟨⟩⟩ ho;have ho:o=oc p t (inA p n):=ho;subst ho;refine Tq.bt (by show(midx ti9.zero.t ((some es).getD []) (kf n)).isSome=true;rw[hm1];rfl) (Tq.some hm1 (Tq.some (lgn (xs:=es) hl) (Tq.bind (add_gv hT hB (by omega) oo).tq ?_)));rintro⟨⟨⟩,st',⟨⟩⟩ hT';have hT':TlI st' (tal [] (gous p t kf (kf n) n++[oc p t (inA p n)])):=by unfold tal;rw[List.foldl_append];exact hT'
        obtain⟨f1,f2,f3,f4,f5⟩:=fin es hG i hm st' hT';refine Tq.bt f1 (Tq.some f2 (Tq.some f3 ?_));have:=ih (n+1) (mset es i st') (by omega) (by omega) f5;rw[←f4]at this;exact this
      | none=>
        have hm1:midx ti9.zero.t ((some es).getD []) (kf n)=none:=hm;refine Tq.bf (by show(midx ti9.zero.t ((some es).getD []) (kf n)).isSome=false;rw[hm1];rfl) (Tq.some rfl (Tq.bind (runIn_gv ht n).tq ?_));rintro⟨⟨o,v,⟨⟩⟩,⟨⟩⟩ ho;have ho:o=oc p t (inA p n):=ho;subst ho;have hN:=hG.new hm;have eP:mput .str es (kf n) ((none,[],[],()):Tly)=es++[(kf n,(none,[],[],()))]:=put_new hm;have hm2:midx .str (es++[(kf n,((none,[],[],()):Tly))]) (kf n)=some es.length:=by rw[midx_app,hm];show(if kf n=kf n then _ else _)=_;rw[if_pos rfl]
        have hm3:midx ti9.zero.t ((some (mput ti9.zero.t es (kf n) ((none,[],[],()):Tly))).getD []) (kf n)=some es.length:=by
          show midx .str (mput .str es (kf n) ((none,[],[],()):Tly)) (kf n)=_
          rw[eP];exact hm2
        have hl3:lget ((some (mput ti9.zero.t es (kf n) ((none,[],[],()):Tly))).getD []) es.length=some (kf n,((none,[],[],()):Tly)):=by
          show lget (mput .str es (kf n) ((none,[],[],()):Tly)) es.length=_
          rw[eP];unfold lget;rw[List.getElem?_append_right (Nat.le_refl _),Nat.sub_self];rfl
        have hT0:TlI ((none,[],[],()):Tly) (tal [] (gous p t kf (kf n) n)):=by
          have e:gous p t kf (kf n) n=[]:=(hG (kf n)).1 hm;rw[e];exact TlI.nil
        refine Tq.bt (by show(midx ti9.zero.t ((some (mput ti9.zero.t es (kf n) ((none,[],[],()):Tly))).getD []) (kf n)).isSome=true;rw[hm3];rfl) (Tq.some hm3 (Tq.some hl3 (Tq.bind (add_gv hT0 hB (by omega) oo).tq ?_)));rintro⟨⟨⟩,st',⟨⟩⟩ hT';have hT':TlI st' (tal [] (gous p t kf (kf n) n++[oc p t (inA p n)])):=by unfold tal;rw[List.foldl_append];exact hT'
        obtain⟨f1,f2,f3,f4,f5⟩:=fin _ hN es.length hm2 st' hT';rw[←eP]at f1 f2 f3 f5;refine Tq.bt f1 (Tq.some f2 (Tq.some f3 ?_));have:=ih (n+1) _ (by omega) (by omega) f5;rw[←f4]at this;exact this
  exact Tq.diag (key (cN p) 0 [] rfl (Nat.zero_le _) (fun x=>⟨fun _=>rfl,fun i h=>by cases h⟩))
end Go.Proofs.YtjgfofcgmcnblaaGreat.Pf
namespace Go.Proofs.YtjgfofcgmcnblaaGreat.Pf
open Go Go.Pv
theorem idx3 {j n:Nat}(h:j<n):(decide ((0:Int)≤(j:Int))&&decide (j<n))=true:=by
  rw[dle0,decide_eq_true h];rfl
theorem under_app {A B o h:List Int}(h1:Under A o)(h2:Under B h):Under (A++B) (o++h):=by
  refine⟨by rw[List.length_append,List.length_append,h1.1,h2.1],fun i i1 i2=>?_⟩;have e1:=h1.1;rcases Nat.lt_or_ge i o.length with c|c
  . rw[List.getElem_append_left c,List.getElem_append_left (by omega)];exact h1.2 i c (by omega)
  . rw[List.length_append]at i1 i2;rw[List.getElem_append_right c,List.getElem_append_right (by omega)];have:=h2.2 (i-o.length) (by omega) (by omega);simp only[e1]at this⊢;exact this
theorem rep_of {p:Pg}(hp:Hd p){z:List Int}(hu:Under (mx p) z):∃r,r<cN p∧inA p r=z:=by
  have b:=num_bd (mx_few hp) hu;have c:=cnt_bd hp;refine⟨(numF (mx p) z).toNat,by unfold cN;omega,?_⟩;unfold inA;have e:(((numF (mx p) z).toNat:Nat):Int)=numF (mx p) z:=by omega
  rw[e];exact(at_num (mx_few hp) hu b.1).2 (Int.emod_eq_of_lt b.1 b.2)
theorem under_vals {A l:List Int}(hA:Few A)(h:Under A l):∀x∈l,0≤x∧x≤255:=fun x hx=>by
  obtain⟨i,hi,rfl⟩:=List.getElem_of_mem hx;have h2:=h.2 i hi (by have:=h.1;omega);have h3:=hA _ (List.getElem_mem (show i<A.length by have:=h.1;omega));exact⟨h2.1,by omega⟩
theorem under_set {A l:List Int}(hA:Few A)(h:Under A l)(i:Nat):Under A (l.set i 0):=by
  refine⟨by rw[List.length_set];exact h.1,fun k k1 k2=>?_⟩;rw[List.getElem_set];split
  . exact⟨Int.le_refl _,(hA _ (List.getElem_mem k2)).1⟩
  . exact h.2 k (by rw[List.length_set]at k1;exact k1) k2
section
variable {p:Pg}{t:Fs}(ht:Ok p t)
include ht
theorem lowU(n:Nat):Under (lowm p) ((inA p n).take p.2.1.length):=within_under (wi_in ht n).1
theorem secU(n:Nat):Under (secs p) ((inA p n).drop p.2.1.length):=within_under (wi_in ht n).2
theorem ft_parts {free:List Bool}(hf:free.length=p.2.2.1.length)(m n:Nat):Ft p (inA p n) free m↔FT ((inA p m).drop p.2.1.length) ((inA p n).drop p.2.1.length) 0 free 0∧(inA p m).take p.2.1.length=(inA p n).take p.2.1.length:=by
  have i1:=inA_len ht m;have i2:=inA_len ht n;rw[FT_split (by rw[List.length_take,List.length_take];omega) (by rw[List.length_drop,List.length_drop];omega) (by rw[List.length_drop];omega),List.take_append_drop,List.take_append_drop,show((inA p n).take p.2.1.length).length=p.2.1.length by rw[List.length_take];omega];rfl
theorem parts_eq {m:Nat}{o h:List Int}(e:inA p m=o++h)(ho:o.length=p.2.1.length):(inA p m).take p.2.1.length=o∧(inA p m).drop p.2.1.length=h:=by
  rw[e,←ho];exact⟨List.take_left,List.drop_left⟩
def oneF(p:Pg)(i:Nat):List Bool:=(List.replicate p.2.2.1.length false).set i true
def kfF(p:Pg)(i:Nat)(n:Nat):ByteArray:=lkey ((inA p n).take p.2.1.length)++lkey (((inA p n).drop p.2.1.length).set i 0)
theorem one_get {i k:Nat}(h:k<(oneF p i).length):(oneF p i)[k]=true↔i=k:=by
  simp only[oneF,List.getElem_set,List.getElem_replicate];by_cases c:i=k<;>simp[c]
theorem set_eq {h s:List Int}{i:Nat}(e:h.length=s.length)(hi:h.length=p.2.2.1.length):FT h s 0 (oneF p i) 0↔h.set i 0=s.set i 0:=by
  have fl:(oneF p i).length=p.2.2.1.length:=by unfold oneF;rw[List.length_set,List.length_replicate]
  constructor
  . intro H;refine List.ext_getElem (by rw[List.length_set,List.length_set];exact e) fun k k1 k2=>?_
    rw[List.length_set]at k1 k2;rw[List.getElem_set,List.getElem_set];by_cases c:i=k
    . rw[if_pos c,if_pos c]
    . rw[if_neg c,if_neg c];exact(H k (Nat.zero_le _) k1 k2).elim id fun⟨_,h3,h4⟩=>absurd ((one_get ht h3).1 h4) c
  . intro H k _ k1 k2;by_cases c:i=k
    . exact .inr ⟨Nat.zero_le _,by show k<_;omega,(one_get ht (by show k<_;omega)).2 c⟩
    . left;have h1:(h.set i 0)[k]'(by rw[List.length_set];exact k1)=h[k]:=List.getElem_set_ne c _;have h2:(s.set i 0)[k]'(by rw[List.length_set];exact k2)=s[k]:=List.getElem_set_ne c _;rw[←h1,←h2];simp only[H]
theorem kfF_eq(i m n:Nat):kfF p i m=kfF p i n↔Ft p (inA p n) (oneF p i) m:=by
  have i1:=inA_len ht m;have i2:=inA_len ht n;have hf:(oneF p i).length=p.2.2.1.length:=by unfold oneF;rw[List.length_set,List.length_replicate]
  have lv:=fun n=>under_vals (lowm_few ht.hd) (lowU ht n)
  have sv:=fun n=>under_vals (secs_few ht.hd) (under_set (secs_few ht.hd) (secU ht n) i)
  have hv:∀n,∀x∈(inA p n).take p.2.1.length++((inA p n).drop p.2.1.length).set i 0,0≤x∧x≤255:=fun n x hx=>(List.mem_append.1 hx).elim (lv n x) (sv n x)
  rw[ft_parts ht hf,set_eq ht (by rw[List.length_drop,List.length_drop];omega) (by rw[List.length_drop];omega)];unfold kfF;rw[lkey_app,lkey_app,lkey_inj (hv m) (hv n)];constructor
  . intro h;obtain⟨h1,h2⟩:=List.append_inj h (by rw[List.length_take,List.length_take];omega);exact⟨h2,h1⟩
  . rintro⟨h1,h2⟩;rw[h1,h2]
theorem mostF_eq(i:Nat):moF p t (kfF p i) (cN p)=msF p t (oneF p i) (cN p):=by
  refine most_eq (kfF_eq ht i) fun n _=>?_
  have i2:=inA_len ht n;obtain⟨r,r1,r2⟩:=rep_of ht.hd (under_app (lowU ht n) (under_set (secs_few ht.hd) (secU ht n) i));have ol:((inA p n).take p.2.1.length).length=p.2.1.length:=by rw[List.length_take];omega
  obtain⟨e1,e2⟩:=parts_eq ht r2 ol;refine⟨r,r1,?_,fun k _ hk hk2 h2=>?_⟩
  . unfold kfF;rw[e1,e2,List.set_set]
  . have e:=(one_get ht hk).1 hk2;subst e;have h3:i<(((inA p n).drop p.2.1.length).set i 0).length:=by
      rw[←e2,List.length_drop];omega
    have:(inA p r)[p.2.1.length+i]=((inA p r).drop p.2.1.length)[i]'(by rw[e2];exact h3):=by rw[List.getElem_drop]
    rw[this];simp only[e2];rw[List.getElem_set_self]
theorem iKeyF {i:Nat}(hi:i<p.2.2.1.length)(n:Nat):Ans n_impl_MostFor_1 s_impl_MostFor_1 ((inA p n).take p.2.1.length,(inA p n).drop p.2.1.length,(i:Int),()) ((kfF p i n,()),()):=by
  have i2:=inA_len ht n;have hb:=ht.hd.b;refine Gv.ans (Gv.of (fun k=>impl_MostFor_1.F_eq (cl k) k _ _ _) ?_);unfold impl_MostFor_1.F impl_MostFor_1.Fm;have hl:((inA p n).drop p.2.1.length).length=p.2.2.1.length:=by rw[List.length_drop];omega
  rw[List.nil_append,Int.toNat_natCast];have s1:=lkey_size (a:=(inA p n).take p.2.1.length) (by rw[List.length_take];omega);have s2:=lkey_size (a:=((inA p n).drop p.2.1.length).set i 0) (by rw[List.length_set];omega);exact Tq.bt (apb (by rw[by2];omega)) (Tq.bt (idx3 (by omega)) (Tq.some (lgn (by omega)) (Tq.ba (listKey_ans _ (by rw[List.length_take];omega)) (Tq.ba (listKey_ans _ (by rw[List.length_set];omega)) (Tq.bt (decide_eq_true (by dsimp only;omega)) (Tq.ret rfl))))))
end
theorem mostFor_agree {p:Pg}(hsm:Small p)(i:Int):∃x:Int,(-1≤x∧x≤1024)∧Ans n_spec_MostFor s_spec_MostFor (p,i,()) ((x,()),())∧Ans n_impl_MostFor s_impl_MostFor (p,i,()) ((x,()),()):=by
  have a1:=iOk_ans p hsm;have a2:=sOk_ans p hsm;have hS:=hsm.2.1;have w:IntKind.i64.wrap ((p.2.2.1.length:Int)-1)=(p.2.2.1.length:Int)-1:=w64 (by omega) (by omega);by_cases c:IsOk p
  . rw [bo_t c]at a1 a2;obtain⟨t,ht⟩:=c;by_cases c2:0≤i∧i≤(p.2.2.1.length:Int)-1
    . obtain⟨I,rfl⟩:∃I:Nat,i=I:=⟨i.toNat,by omega⟩
      have hI:I<p.2.2.1.length:=by omega
      have hf:(oneF p I).length=p.2.2.1.length:=by unfold oneF;rw[List.length_set,List.length_replicate]
      have mb:=mo_bd p t (kfF p I) (cN p);have mp:=mo_pos p t (kfF p I) (cN p);have hc:=(cN_bd ht).1;refine⟨moF p t (kfF p I) (cN p),⟨by omega,by omega⟩,Gv.ans (Gv.of (fun k=>spec_MostFor.F_eq (cl k) k p I) ?_),Gv.ans (Gv.of (fun k=>impl_MostFor.F_eq (cl k) k p I) ?_)⟩
      . unfold spec_MostFor.F spec_MostFor.Fm;refine Tq.ba a2 (Tq.bf rfl ?_);rw[w,Int.toNat_natCast,Int.toNat_natCast];refine Tq.ba (l1In_ans _ _ _) (Tq.bf (by show(!bo _)=false;rw[bo_t c2];rfl) (Tq.bt (mk_ok (b:=ti4.bytes) (by show p.2.2.1.length*1≤_;omega)) (Tq.bt (idx3 (by rw[List.length_replicate];exact hI)) (Tq.some (lgn (by rw[List.length_replicate];exact hI)) ?_))));have:=sMost_ans ht hf;rw[←mostF_eq ht]at this;exact Tq.ba this (Tq.ret rfl)
      . unfold impl_MostFor.F impl_MostFor.Fm;exact Tq.ba a1 (Tq.bf rfl (Tq.bf (decide_eq_false (by omega)) (Tq.bf (decide_eq_false (by omega)) (Tq.ba (mostF_gv ht (fun n _=>iKeyF ht hI n)) (Tq.ret rfl)))))
    . refine⟨-1,⟨by omega,by omega⟩,Gv.ans (Gv.of (fun k=>spec_MostFor.F_eq (cl k) k p i) ?_),Gv.ans (Gv.of (fun k=>impl_MostFor.F_eq (cl k) k p i) ?_)⟩
      . unfold spec_MostFor.F spec_MostFor.Fm;refine Tq.ba a2 (Tq.bf rfl ?_);rw[w];exact Tq.ba (l1In_ans _ _ _) (Tq.bt (by show(!bo _)=true;rw[bo_f c2];rfl) (Tq.ret rfl))
      . unfold impl_MostFor.F impl_MostFor.Fm;refine Tq.ba a1 (Tq.bf rfl ?_);by_cases c3:i<0
        . exact Tq.bt (decide_eq_true c3) (Tq.ret rfl)
        . exact Tq.bf (decide_eq_false c3) (Tq.bt (decide_eq_true (by omega)) (Tq.ret rfl))
  . rw[bo_f c]at a1 a2;refine⟨-1,⟨by omega,by omega⟩,Gv.ans (Gv.of (fun k=>spec_MostFor.F_eq (cl k) k p i) ?_),Gv.ans (Gv.of (fun k=>impl_MostFor.F_eq (cl k) k p i) ?_)⟩
    . unfold spec_MostFor.F spec_MostFor.Fm;exact Tq.ba a2 (Tq.bt rfl (Tq.ret rfl))
    . unfold impl_MostFor.F impl_MostFor.Fm;exact Tq.ba a1 (Tq.bt rfl (Tq.ret rfl))
end Go.Proofs.YtjgfofcgmcnblaaGreat.Pf
namespace Go.Proofs.YtjgfofcgmcnblaaGreat.Pf
open Go Go.Pv
theorem szInt64S_gv(a:List Int)(n:Int)(h0:0≤n)(hn:n≤1048576)(ha:a.length≤maxLen):Gv n_laws_szInt64S s_laws_szInt64S (a,n,()) (fun(r:(Int×Unit)×Unit)=>r.1.1≤n∧(r.1.1<0∨(a.length:Int)≤n)):=by
  have ha:a.length≤9223372036854775807:=ha;refine Gv.of (fun k=>laws_szInt64S.F_eq (cl k) k a n) ?_;unfold laws_szInt64S.F laws_szInt64S.Fm;rw[w64 (by omega) (by omega)];refine Tq.bif (fun h=>Tq.ret ?_) fun h=>Tq.ret ?_
  . exact⟨by show(-1:Int)≤n;omega,.inl (by show(-1:Int)<0;omega)⟩
  . have h:=of_decide_eq_false h;exact⟨by show n-(a.length:Int)≤n;omega,.inr (by omega)⟩
theorem szInputS_gv(a:List Ip)(n:Int)(h0:0≤n)(hn:n≤1048576)(ha:a.length≤maxLen):Gv n_laws_szInputS s_laws_szInputS (a,n,()) (fun(r:(Int×Unit)×Unit)=>r.1.1≤n∧(r.1.1<0∨(a.length:Int)≤n)):=by
  have ha:a.length≤9223372036854775807:=ha;refine Gv.of (fun k=>laws_szInputS.F_eq (cl k) k a n) ?_;unfold laws_szInputS.F laws_szInputS.Fm;rw[w64 (by omega) (by omega)];refine Tq.bif (fun h=>Tq.ret ?_) fun h=>Tq.ret ?_
  . exact⟨by show(-1:Int)≤n;omega,.inl (by show(-1:Int)<0;omega)⟩
  . have h:=of_decide_eq_false h;exact⟨by show n-(a.length:Int)≤n;omega,.inr (by omega)⟩
theorem szTermS_gv(a:List Tm)(n:Int)(h0:0≤n)(hn:n≤1048576)(ha:a.length≤maxLen):Gv n_laws_szTermS s_laws_szTermS (a,n,()) (fun(r:(Int×Unit)×Unit)=>r.1.1≤n∧(r.1.1<0∨(a.length:Int)≤n)):=by
  have ha:a.length≤9223372036854775807:=ha;refine Gv.of (fun k=>laws_szTermS.F_eq (cl k) k a n) ?_;unfold laws_szTermS.F laws_szTermS.Fm;rw[w64 (by omega) (by omega)];refine Tq.bif (fun h=>Tq.ret ?_) fun h=>Tq.ret ?_
  . exact⟨by show(-1:Int)≤n;omega,.inl (by show(-1:Int)<0;omega)⟩
  . have h:=of_decide_eq_false h;exact⟨by show n-(a.length:Int)≤n;omega,.inr (by omega)⟩
theorem szStmt_gv(x:Sm)(n:Int)(h0:0≤n)(hn:n≤1048576)(h1:x.2.2.1.length≤maxLen)(h2:x.2.2.2.1.length≤maxLen):
    Gv n_laws_szStmt s_laws_szStmt (x,n,()) (fun(r:(Int×Unit)×Unit)=>r.1.1≤n∧(r.1.1<0∨((x.2.2.1.length:Int)≤n∧(x.2.2.2.1.length:Int)≤n))):=by
  refine Gv.of (fun k=>laws_szStmt.F_eq (cl k) k x n) ?_;unfold laws_szStmt.F laws_szStmt.Fm;refine Tq.bind (szTermS_gv x.2.2.1 n h0 hn h1).tq fun(y:(Int×Unit)×Unit) hy=>?_
  obtain⟨hy1,hy2⟩:=hy;refine Tq.bif (fun h=>Tq.ret ⟨by show(-1:Int)≤n;omega,.inl (by show(-1:Int)<0;omega)⟩) fun h=>?_
  have h:¬y.1.1<0:=of_decide_eq_false h;refine Tq.bind (szTermS_gv x.2.2.2.1 y.1.1 (by omega) (by omega) h2).tq fun(z:(Int×Unit)×Unit) hz=>?_
  obtain⟨hz1,hz2⟩:=hz;refine Tq.bif (fun h=>Tq.ret ⟨by show(-1:Int)≤n;omega,.inl (by show(-1:Int)<0;omega)⟩) fun h'=>?_
  have h':¬z.1.1<0:=of_decide_eq_false h';exact Tq.ret ⟨by show z.1.1≤n;omega,.inr ⟨hy2.resolve_left h,by have:=hz2.resolve_left h';omega⟩⟩
theorem szStmtS_loop(a:List Sm)(ha:a.length≤1048576)(he:∀x∈a,x.2.2.1.length≤maxLen∧x.2.2.2.1.length≤maxLen):∀(d j:Nat)(m:Int),a.length-j=d→0≤m→m≤1048576→
    Tq (d+1) (fun k q=>laws_szStmtS.L0 (cl k) k a q m (j:Int)) (fun(r:(Int×Unit)×Unit)=>r.1.1≤m∧(r.1.1<0∨∀(i:Nat)(h:i<a.length),j≤i→a[i].2.2.1.length≤1048576∧a[i].2.2.2.1.length≤1048576))
  | 0,j,m,hd,h0,hm=>by
    refine Tq.succ ?_;show Tq _ (fun k q=>laws_szStmtS.step0 (cl k) k ..) _
    unfold laws_szStmtS.step0;exact Tq.bf (dnlt (by omega)) (Tq.ret ⟨Int.le_refl _,.inr fun i h hji=>by omega⟩)
  | d +1,j,m,hd,h0,hm=>by
    have hj:j<a.length:=by omega
    refine Tq.succ ?_;show Tq _ (fun k q=>laws_szStmtS.step0 (cl k) k ..) _
    unfold laws_szStmtS.step0;obtain⟨e1,e2⟩:=he a[j] (List.getElem_mem hj);refine Tq.bt (dlt hj) (Tq.bt (dle0 j) (Tq.some (lg hj) (Tq.bind (szStmt_gv a[j] m h0 hm e1 e2).tq fun(y:(Int×Unit)×Unit) hy=>?_)));obtain⟨hy1,hy2⟩:=hy;refine Tq.bif (fun h=>Tq.ret ⟨by show(-1:Int)≤m;omega,.inl (by show(-1:Int)<0;omega)⟩) fun h=>?_
    have h:¬y.1.1<0:=of_decide_eq_false h;rw[ws hj (by omega)];refine(szStmtS_loop a ha he d (j+1) y.1.1 (by omega) (by omega) (by omega)).mono fun(r:(Int×Unit)×Unit) hr=>⟨by have:=hr.1;omega,hr.2.imp id fun H i hi hji=>?_⟩
    rcases Nat.lt_or_ge j i with h3|h3
    . exact H i hi h3
    . obtain rfl:i=j:=by omega
      have:=hy2.resolve_left h;omega
theorem szStmtS_gv(a:List Sm)(n:Int)(h0:0≤n)(hn:n≤1048576)(ha:a.length≤maxLen)(he:∀x∈a,x.2.2.1.length≤maxLen∧x.2.2.2.1.length≤maxLen):
    Gv n_laws_szStmtS s_laws_szStmtS (a,n,()) (fun(r:(Int×Unit)×Unit)=>r.1.1≤n∧(r.1.1<0∨(a.length≤1048576∧∀x∈a,x.2.2.1.length≤1048576∧x.2.2.2.1.length≤1048576))):=by
  have ha:a.length≤9223372036854775807:=ha;refine Gv.of (fun k=>laws_szStmtS.F_eq (cl k) k a n) ?_;unfold laws_szStmtS.F laws_szStmtS.Fm;rw[w64 (by omega) (by omega)];refine Tq.bif (fun h=>Tq.ret ⟨by show(-1:Int)≤n;omega,.inl (by show(-1:Int)<0;omega)⟩) fun h=>?_
  have h:=of_decide_eq_false h;refine Tq.diag ((szStmtS_loop a (by omega) he a.length 0 (n-a.length) rfl (by omega) (by omega)).mono fun(r:(Int×Unit)×Unit) hr=>⟨by have:=hr.1;omega,hr.2.imp id fun H=>⟨by omega,fun x hx=>?_⟩⟩);obtain⟨i,hi,rfl⟩:=List.getElem_of_mem hx;exact H i hi (Nat.zero_le _)
def Lens(p:Pg):Prop:=p.2.1.length≤maxLen∧p.2.2.1.length≤maxLen∧p.2.2.2.2.1.length≤maxLen∧p.2.2.2.2.2.1.length≤maxLen∧∀x∈p.2.2.2.2.2.1,x.2.2.1.length≤maxLen∧x.2.2.2.1.length≤maxLen
theorem szProg_gv(p:Pg)(hp:Lens p):Gv n_laws_szProg s_laws_szProg (p,1048576,()) (fun(r:(Int×Unit)×Unit)=>r.1.1<0∨Small p):=by
  obtain⟨h1,h2,h3,h4,h5⟩:=hp;refine Gv.of (fun k=>laws_szProg.F_eq (cl k) k p 1048576) ?_;unfold laws_szProg.F laws_szProg.Fm;refine Tq.bind (szInputS_gv p.2.1 1048576 (by omega) (by omega) h1).tq fun(y:(Int×Unit)×Unit) hy=>?_
  obtain⟨a1,b1⟩:=hy;refine Tq.bif (fun h=>Tq.ret (.inl (by show(-1:Int)<0;omega))) fun h=>?_
  have c1:¬y.1.1<0:=of_decide_eq_false h;refine Tq.bind (szInputS_gv p.2.2.1 y.1.1 (by omega) (by omega) h2).tq fun(z:(Int×Unit)×Unit) hz=>?_
  obtain⟨a2,b2⟩:=hz;refine Tq.bif (fun h=>Tq.ret (.inl (by show(-1:Int)<0;omega))) fun h=>?_
  have c2:¬z.1.1<0:=of_decide_eq_false h;refine Tq.bind (szInt64S_gv p.2.2.2.2.1 z.1.1 (by omega) (by omega) h3).tq fun(u:(Int×Unit)×Unit) hu=>?_
  obtain⟨a3,b3⟩:=hu;refine Tq.bif (fun h=>Tq.ret (.inl (by show(-1:Int)<0;omega))) fun h=>?_
  have c3:¬u.1.1<0:=of_decide_eq_false h;refine Tq.bind (szStmtS_gv p.2.2.2.2.2.1 u.1.1 (by omega) (by omega) h4 h5).tq fun(v:(Int×Unit)×Unit) hv=>?_
  obtain⟨a4,b4⟩:=hv;refine Tq.bif (fun h=>Tq.ret (.inl (by show(-1:Int)<0;omega))) fun h=>?_
  have c4:¬v.1.1<0:=of_decide_eq_false h;have d4:=b4.resolve_left c4;have d1:=b1.resolve_left c1;have d2:=b2.resolve_left c2;have d3:=b3.resolve_left c3;exact Tq.ret (.inr ⟨by omega,by omega,by omega,d4.1,d4.2⟩)
end Go.Proofs.YtjgfofcgmcnblaaGreat.Pf
namespace Go.Proofs.YtjgfofcgmcnblaaGreat.Pf
open Go Go.Pv
theorem eqInput_ans(x:Ip):Ans n_laws_eqInput s_laws_eqInput (x,x,()) ((true,()),()):=by
  refine Gv.ans (Gv.of (fun k=>laws_eqInput.F_eq (cl k) k x x) ?_);unfold laws_eqInput.F laws_eqInput.Fm;exact Tq.bf (bne_self_eq_false _) (Tq.bf (bne_self_eq_false _) (Tq.ret rfl))
theorem eqTerm_ans(x:Tm):Ans n_laws_eqTerm s_laws_eqTerm (x,x,()) ((true,()),()):=by
  refine Gv.ans (Gv.of (fun k=>laws_eqTerm.F_eq (cl k) k x x) ?_);unfold laws_eqTerm.F laws_eqTerm.Fm;exact Tq.bf (bne_self_eq_false _) (Tq.bf (bne_self_eq_false _) (Tq.ret rfl))
theorem eqInt64S_loop(a:List Int)(ha:a.length≤1048576):∀(d j:Nat),a.length-j=d→
    Tq (d+1) (fun k q=>laws_eqInt64S.L0 (cl k) k a a q (j:Int)) (· =((true,()),()))
  | 0,j,hd=>by
    refine Tq.succ ?_;show Tq _ (fun k q=>laws_eqInt64S.step0 (cl k) k ..) _
    unfold laws_eqInt64S.step0;exact Tq.bf (dnlt (by omega)) (Tq.ret rfl)
  | d+1,j,hd=>by
    have hj:j<a.length:=by omega
    refine Tq.succ ?_;show Tq _ (fun k q=>laws_eqInt64S.step0 (cl k) k ..) _
    unfold laws_eqInt64S.step0;refine Tq.bt (dlt hj) (Tq.bt (dle0 j) (Tq.some (lg hj) (Tq.bt (dle0 j) (Tq.some (lg hj) (Tq.bf (bne_self_eq_false _) ?_)))));rw[ws hj (by omega)];exact eqInt64S_loop a ha d (j+1) (by omega)
theorem eqInt64S_ans(a:List Int)(ha:a.length≤1048576):Ans n_laws_eqInt64S s_laws_eqInt64S (a,a,()) ((true,()),()):=by
  refine Gv.ans (Gv.of (fun k=>laws_eqInt64S.F_eq (cl k) k a a) ?_);unfold laws_eqInt64S.F laws_eqInt64S.Fm;exact Tq.bf (bne_self_eq_false _) (Tq.diag (eqInt64S_loop a ha a.length 0 rfl))
theorem eqInputS_loop(a:List Ip)(ha:a.length≤1048576):∀(d j:Nat),a.length-j=d→
    Tq (d+1) (fun k q=>laws_eqInputS.L0 (cl k) k a a q (j:Int)) (· =((true,()),()))
  | 0,j,hd=>by
    refine Tq.succ ?_;show Tq _ (fun k q=>laws_eqInputS.step0 (cl k) k ..) _
    unfold laws_eqInputS.step0;exact Tq.bf (dnlt (by omega)) (Tq.ret rfl)
  | d+1,j,hd=>by
    have hj:j<a.length:=by omega
    refine Tq.succ ?_;show Tq _ (fun k q=>laws_eqInputS.step0 (cl k) k ..) _
    unfold laws_eqInputS.step0;refine Tq.bt (dlt hj) (Tq.bt (dle0 j) (Tq.some (lg hj) (Tq.bt (dle0 j) (Tq.some (lg hj) (Tq.bind (eqInput_ans a[j]).tq fun y hy=>?_)))));subst hy;refine Tq.bf rfl ?_;rw[ws hj (by omega)];exact eqInputS_loop a ha d (j+1) (by omega)
theorem eqInputS_ans(a:List Ip)(ha:a.length≤1048576):Ans n_laws_eqInputS s_laws_eqInputS (a,a,()) ((true,()),()):=by
  refine Gv.ans (Gv.of (fun k=>laws_eqInputS.F_eq (cl k) k a a) ?_);unfold laws_eqInputS.F laws_eqInputS.Fm;exact Tq.bf (bne_self_eq_false _) (Tq.diag (eqInputS_loop a ha a.length 0 rfl))
theorem eqTermS_loop(a:List Tm)(ha:a.length≤1048576):∀(d j:Nat),a.length-j=d→
    Tq (d+1) (fun k q=>laws_eqTermS.L0 (cl k) k a a q (j:Int)) (· =((true,()),()))
  | 0,j,hd=>by
    refine Tq.succ ?_;show Tq _ (fun k q=>laws_eqTermS.step0 (cl k) k ..) _
    unfold laws_eqTermS.step0;exact Tq.bf (dnlt (by omega)) (Tq.ret rfl)
  | d+1,j,hd=>by
    have hj:j<a.length:=by omega
    refine Tq.succ ?_;show Tq _ (fun k q=>laws_eqTermS.step0 (cl k) k ..) _
    unfold laws_eqTermS.step0;refine Tq.bt (dlt hj) (Tq.bt (dle0 j) (Tq.some (lg hj) (Tq.bt (dle0 j) (Tq.some (lg hj) (Tq.bind (eqTerm_ans a[j]).tq fun y hy=>?_)))));subst hy;refine Tq.bf rfl ?_;rw[ws hj (by omega)];exact eqTermS_loop a ha d (j+1) (by omega)
theorem eqTermS_ans(a:List Tm)(ha:a.length≤1048576):Ans n_laws_eqTermS s_laws_eqTermS (a,a,()) ((true,()),()):=by
  refine Gv.ans (Gv.of (fun k=>laws_eqTermS.F_eq (cl k) k a a) ?_);unfold laws_eqTermS.F laws_eqTermS.Fm;exact Tq.bf (bne_self_eq_false _) (Tq.diag (eqTermS_loop a ha a.length 0 rfl))
theorem eqStmt_ans(x:Sm)(h1:x.2.2.1.length≤1048576)(h2:x.2.2.2.1.length≤1048576):Ans n_laws_eqStmt s_laws_eqStmt (x,x,()) ((true,()),()):=by
  refine Gv.ans (Gv.of (fun k=>laws_eqStmt.F_eq (cl k) k x x) ?_);unfold laws_eqStmt.F laws_eqStmt.Fm;refine Tq.bf (bne_self_eq_false _) (Tq.bf (bne_self_eq_false _) (Tq.bind (eqTermS_ans x.2.2.1 h1).tq fun y hy=>?_));subst hy;refine Tq.bf rfl (Tq.bind (eqTermS_ans x.2.2.2.1 h2).tq fun y hy=>?_);subst hy;exact Tq.bf rfl (Tq.ret rfl)
theorem eqStmtS_loop(a:List Sm)(ha:a.length≤1048576)(he:∀x∈a,Ans n_laws_eqStmt s_laws_eqStmt (x,x,()) ((true,()),())):∀(d j:Nat),a.length-j=d→
    Tq (d+1) (fun k q=>laws_eqStmtS.L0 (cl k) k a a q (j:Int)) (· =((true,()),()))
  | 0,j,hd=>by
    refine Tq.succ ?_;show Tq _ (fun k q=>laws_eqStmtS.step0 (cl k) k ..) _
    unfold laws_eqStmtS.step0;exact Tq.bf (dnlt (by omega)) (Tq.ret rfl)
  | d+1,j,hd=>by
    have hj:j<a.length:=by omega
    refine Tq.succ ?_;show Tq _ (fun k q=>laws_eqStmtS.step0 (cl k) k ..) _
    unfold laws_eqStmtS.step0;refine Tq.bt (dlt hj) (Tq.bt (dle0 j) (Tq.some (lg hj) (Tq.bt (dle0 j) (Tq.some (lg hj) (Tq.bind (he a[j] (List.getElem_mem hj)).tq fun y hy=>?_)))));subst hy;refine Tq.bf rfl ?_;rw[ws hj (by omega)];exact eqStmtS_loop a ha he d (j+1) (by omega)
theorem eqStmtS_ans(a:List Sm)(ha:a.length≤1048576)(he:∀x∈a,Ans n_laws_eqStmt s_laws_eqStmt (x,x,()) ((true,()),())):Ans n_laws_eqStmtS s_laws_eqStmtS (a,a,()) ((true,()),()):=by
  refine Gv.ans (Gv.of (fun k=>laws_eqStmtS.F_eq (cl k) k a a) ?_);unfold laws_eqStmtS.F laws_eqStmtS.Fm;exact Tq.bf (bne_self_eq_false _) (Tq.diag (eqStmtS_loop a ha he a.length 0 rfl))
theorem eqProg_ans(p:Pg)(h:Small p):Ans n_laws_eqProg s_laws_eqProg (p,p,()) ((true,()),()):=by
  obtain⟨h1,h2,h3,h4,h5⟩:=h;refine Gv.ans (Gv.of (fun k=>laws_eqProg.F_eq (cl k) k p p) ?_);unfold laws_eqProg.F laws_eqProg.Fm;refine Tq.bf (bne_self_eq_false _) (Tq.bind (eqInputS_ans p.2.1 h1).tq fun y hy=>?_);subst hy;refine Tq.bf rfl (Tq.bind (eqInputS_ans p.2.2.1 h2).tq fun y hy=>?_);subst hy;refine Tq.bf rfl (Tq.bf (bne_self_eq_false _) (Tq.bind (eqInt64S_ans p.2.2.2.2.1 h3).tq fun y hy=>?_));subst hy;refine Tq.bf rfl (Tq.bind (eqStmtS_ans p.2.2.2.2.2.1 h4 fun x hx=>eqStmt_ans x (h5 x hx).1 (h5 x hx).2).tq fun y hy=>?_);subst hy;exact Tq.bf rfl (Tq.ret rfl)
end Go.Proofs.YtjgfofcgmcnblaaGreat.Pf
namespace Go.Proofs.YtjgfofcgmcnblaaGreat.Pf
open Go Go.Pv IntKind
end Go.Proofs.YtjgfofcgmcnblaaGreat.Pf
namespace Go.Proofs.YtjgfofcgmcnblaaGreat.Pf
open Go Go.Pv
abbrev R1:=(Int×Unit)×(List Int×Unit)
end Go.Proofs.YtjgfofcgmcnblaaGreat.Pf
namespace Go.Proofs.YtjgfofcgmcnblaaGreat.Pf
open Go Go.Pv IntKind
abbrev YLExactMostFor_0:Type:=(Int×((List (Int×(Int×Unit)))×((List (Int×(Int×Unit)))×(Int×((List Int)×((List (Int×(Int×((List (Int×(Int×Unit)))×((List (Int×(Int×Unit)))×Unit)))))×Unit))))))
abbrev YLExactMostFor_1:Type:=(((Int×List (Int×Int×Unit)×List (Int×Int×Unit)×Int×List Int×List (Int×Int×List (Int×Int×Unit)×List (Int×Int×Unit)×Unit)×Unit)×Unit)×Unit)
namespace laws_FnExactMostFor
abbrev R:=((Bool×Unit)×Unit)
def Fm(call:Cl)(k:Nat)(a0:YLExactMostFor_0)(a1:Int):Option R:=(call 38 s_laws_szProg (a0,1048576,())).bind fun(y0:(Int×Unit)×Unit)=>bif decide (y0.1.1<0)then some ((true,()),())else(call 40 s_laws_toProg (a0,())).bind fun(y1:YLExactMostFor_1)=>(call 43 s_spec_MostFor (y1.1.1,a1,())).bind fun(y2:(Int×Unit)×Unit)=>(call 40 s_laws_toProg (a0,())).bind fun(y3:YLExactMostFor_1)=>(call 44 s_impl_MostFor (y3.1.1,a1,())).bind fun(y4:(Int×Unit)×Unit)=>bif y4.1.1!=y2.1.1 then some ((false,()),())else(call 40 s_laws_toProg (a0,())).bind fun(y5:YLExactMostFor_1)=>(call 42 s_laws_eqProg (y3.1.1,y5.1.1,())).bind fun(y6:(Bool×Unit)×Unit)=>bif !y6.1.1 then some ((false,()),())else some ((true,()),())
def F(call:Cl)(k:Nat)(a0:YLExactMostFor_0)(a1:Int):Option R:=Fm call k a0 a1
theorem F_eq(call:Cl)(k:Nat)(a0:YLExactMostFor_0)(a1:Int):bodyK E call n_laws_FnExactMostFor k s_laws_FnExactMostFor (a0,a1,())=F call k a0 a1:=by kernel_rfl
end laws_FnExactMostFor
end Go.Proofs.YtjgfofcgmcnblaaGreat.Pf
namespace Go.Proofs.YtjgfofcgmcnblaaGreat.Pf
open Go Go.Pv
theorem mostFor_law(p:Pg)(i:Int)(hl:Lens p):Ans n_laws_FnExactMostFor s_laws_FnExactMostFor (p,i,()) ((true,()),()):=by
  refine Gv.ans (Gv.of (fun k=>laws_FnExactMostFor.F_eq (cl k) k p i) ?_);unfold laws_FnExactMostFor.F laws_FnExactMostFor.Fm;refine Tq.bind (szProg_gv p hl).tq fun(y:(Int×Unit)×Unit) hy=>?_
  refine Tq.bif (fun _=>Tq.ret rfl) fun h0=>?_
  have h0:¬y.1.1<0:=of_decide_eq_false h0;have hs:=hy.resolve_left h0;have tp:=toProg_ans p hs;have ep:=eqProg_ans p hs;obtain⟨x,_,a1,a2⟩:=mostFor_agree hs i;exact Tq.ba tp (Tq.ba a1 (Tq.ba tp (Tq.ba a2 (Tq.bf (bne_self_eq_false _) (Tq.ba tp (Tq.ba ep (Tq.bf rfl (Tq.ret rfl))))))))
end Go.Proofs.YtjgfofcgmcnblaaGreat.Pf
namespace Go.Proofs.YtjgfofcgmcnblaaGreat.fnExactMostFor
open Go Go.Pv Pf
theorem pure:∀(a0:Ty.den (.pair (.int .i64) (.pair (.slc (.pair (.int .i64) (.pair (.int .i64) (.unit)))) (.pair (.slc (.pair (.int .i64) (.pair (.int .i64) (.unit)))) (.pair (.int .i64) (.pair (.slc (.int .i64)) (.pair (.slc (.pair (.int .i64) (.pair (.int .i64) (.pair (.slc (.pair (.int .i64) (.pair (.int .i64) (.unit)))) (.pair (.slc (.pair (.int .i64) (.pair (.int .i64) (.unit)))) (.unit)))))) (.unit))))))))(_:Fits (.pair (.int .i64) (.pair (.slc (.pair (.int .i64) (.pair (.int .i64) (.unit)))) (.pair (.slc (.pair (.int .i64) (.pair (.int .i64) (.unit)))) (.pair (.int .i64) (.pair (.slc (.int .i64)) (.pair (.slc (.pair (.int .i64) (.pair (.int .i64) (.pair (.slc (.pair (.int .i64) (.pair (.int .i64) (.unit)))) (.pair (.slc (.pair (.int .i64) (.pair (.int .i64) (.unit)))) (.unit)))))) (.unit))))))) a0)(a1:Ty.den (.int .i64))(_:Fits (.int .i64) a1),∃r:Sg.R Pf.s_laws_FnExactMostFor|>.den,(∃k,sem Pf.E (fun _ _=>none) k Pf.n_laws_FnExactMostFor Pf.s_laws_FnExactMostFor (a0,(a1,()))=some r)∧r.1.1=true:=by
  rintro p ⟨_,⟨f1,_⟩,⟨f2,_⟩,_,⟨f3,_⟩,⟨f4,f5⟩,_⟩ i _;exact⟨_,(mostFor_law p i ⟨f1,f2,f3,f4,fun x hx=>⟨(f5 x hx).2.2.1.1,(f5 x hx).2.2.2.1.1⟩⟩).sem,rfl⟩
end Go.Proofs.YtjgfofcgmcnblaaGreat.fnExactMostFor
