/- Printed texts of functions, and what they answer: part 3. No condition but those of each. -/
import Derived.Test.YtjgfofcgmcnblaaGreatPfM2
import Derived.KernelRfl
set_option linter.all false
set_option maxHeartbeats 2000000
namespace Go.Proofs.YtjgfofcgmcnblaaGreat.Pf
open Go Go.Pv IntKind
abbrev YB_0:Type:=((Option (List (ByteArray×Int)))×((List ((List Int)×(Int×(Int×Unit))))×((List Int)×Unit)))
abbrev YB_1:Type:=((List ((List Int)×(Int×(Int×Unit)))))
abbrev YB_2:Type:=(List ((List Int)×(Int×(Int×Unit))))
abbrev YB_3:Type:=(((List Int)×(Int×(Int×Unit))))
abbrev YB_4:Type:=((List Int)×(Int×(Int×Unit)))
abbrev YB_5:Type:=(List Int×Int×Int×Unit)
namespace spec_LikeOutcomes
abbrev R:=((Bool×Unit)×Unit)
def S0(a0:YB_4)(a1:YB_4)(v0_0:Int):St:=⟨mkS 45 [(2,.p [500002] [] 0),(3,.p [500003] [] 0),(5,.v tI v0_0)],[([500003],.box (.v (.pair (.slc tI) tTm) ((a1.1),((a1.2.1),((a1.2.2.1),()))))),([500002],.box (.v (.pair (.slc tI) tTm) ((a0.1),((a0.2.1),((a0.2.2.1),())))))]⟩
def step0(call:Cl)(k:Nat)(a0:YB_4)(a1:YB_4)(r0:(Int)→Option R)(v0_0:Int):Option R:=bif decide (v0_0<(↑a0.1.length:Int))then bif decide (0≤v0_0)then(lget a0.1 v0_0.toNat).bind fun(y0:Int)=>bif decide (0≤v0_0)then(lget a1.1 v0_0.toNat).bind fun(y1:Int)=>bif y0 !=y1 then some ((false,()),())else r0 (i64.wrap (v0_0+1))else none else none else some ((true,()),())
def L0(call:Cl)(k:Nat)(a0:YB_4)(a1:YB_4):Nat→(Int)→Option R|0,_=>none|n+1,v0_0=>step0 call k a0 a1 (L0 call k a0 a1 n) v0_0
def Fm(call:Cl)(k:Nat)(l0:YB_3→YB_3→(Int)→Option R)(a0:YB_4)(a1:YB_4):Option R:=bif(↑(List.length a0.1):Int)!=(↑(List.length a1.1):Int)then some ((false,()),())else bif a0.2.1!=a1.2.1 then some ((false,()),())else bif a0.2.2.1!=a1.2.2.1 then some ((false,()),())else l0 a0 a1 0
def F(call:Cl)(k:Nat)(a0:YB_4)(a1:YB_4):Option R:=Fm call k (fun a0_ a1_ v0_0_=>L0 call k a0_ a1_ k v0_0_) a0 a1
theorem L0_eq(call:Cl)(k:Nat)(J:Nat→St→Option R)(a0:YB_4)(a1:YB_4):∀(n:Nat)(x:(Int)),siteI E call n_spec_LikeOutcomes k s_spec_LikeOutcomes (a0,a1,()) J 0 n (S0 a0 a1 x)=L0 call k a0 a1 n x:=by
  refine loop_eq (s:=s_spec_LikeOutcomes) (fun x=>S0 a0 a1 x) (fun n x=>L0 call k a0 a1 n x) (fun r x=>step0 call k a0 a1 (fun v0_0=>r v0_0) x) (fun _=>rfl) (fun _ _=>rfl) fun J0 x=>?_
  kernel_rfl
theorem F_eq(call:Cl)(k:Nat)(a0:YB_4)(a1:YB_4):bodyK E call n_spec_LikeOutcomes k s_spec_LikeOutcomes (a0,a1,())=F call k a0 a1:=by
  exact Eq.trans (b:=Fm call k (fun a0 a1 v0_0_=>siteI E call n_spec_LikeOutcomes k s_spec_LikeOutcomes (a0,a1,()) (fun _ _=>none) 0 k (S0 a0 a1 v0_0_)) a0 a1) (by kernel_rfl) (congrArg (fun l=>Fm call k l a0 a1) (funext fun a0=>funext fun a1=>funext fun v0_0_=>L0_eq call k (fun _ _=>none) a0 a1 k v0_0_))
end spec_LikeOutcomes
namespace spec_l8In
abbrev R:=((Bool×Unit)×Unit)
def S0(a0:YB_2)(a1:YB_4)(v0_1:Int):St:=⟨mkS 18 [(0,.v (.slc (.pair (.slc tI) tTm)) (a0)),(3,.p [500003] [] 0),(5,.v tI v0_1)],[([500003],.box (.v (.pair (.slc tI) tTm) ((a1.1),((a1.2.1),((a1.2.2.1),())))))]⟩
def step0(call:Cl)(k:Nat)(a0:YB_2)(a1:YB_4)(r0:(Int)→Option R)(v0_1:Int):Option R:=bif decide (v0_1<(↑a0.length:Int))then bif decide (0≤v0_1)then(lget a0 v0_1.toNat).bind fun(y0:YB_5)=>(call 143 s_spec_LikeOutcomes (y0,(a1.1,a1.2.1,a1.2.2.1,()),())).bind fun(y1:(Bool×Unit)×Unit)=>bif y1.1.1 then some ((true,()),())else r0 (i64.wrap (v0_1+1))else none else some ((false,()),())
def L0(call:Cl)(k:Nat)(a0:YB_2)(a1:YB_4):Nat→(Int)→Option R|0,_=>none|n+1,v0_1=>step0 call k a0 a1 (L0 call k a0 a1 n) v0_1
def Fm(call:Cl)(k:Nat)(l0:YB_1→YB_3→(Int)→Option R)(a0:YB_2)(a1:YB_4):Option R:=l0 a0 a1 0
def F(call:Cl)(k:Nat)(a0:YB_2)(a1:YB_4):Option R:=Fm call k (fun a0_ a1_ v0_1_=>L0 call k a0_ a1_ k v0_1_) a0 a1
theorem L0_eq(call:Cl)(k:Nat)(J:Nat→St→Option R)(a0:YB_2)(a1:YB_4):∀(n:Nat)(x:(Int)),siteI E call n_spec_l8In k s_spec_l8In (a0,a1,()) J 0 n (S0 a0 a1 x)=L0 call k a0 a1 n x:=by
  refine loop_eq (s:=s_spec_l8In) (fun x=>S0 a0 a1 x) (fun n x=>L0 call k a0 a1 n x) (fun r x=>step0 call k a0 a1 (fun v0_1=>r v0_1) x) (fun _=>rfl) (fun _ _=>rfl) fun J0 x=>?_
  kernel_rfl
theorem F_eq(call:Cl)(k:Nat)(a0:YB_2)(a1:YB_4):bodyK E call n_spec_l8In k s_spec_l8In (a0,a1,())=F call k a0 a1:=by
  exact Eq.trans (b:=Fm call k (fun a0 a1 v0_1_=>siteI E call n_spec_l8In k s_spec_l8In (a0,a1,()) (fun _ _=>none) 0 k (S0 a0 a1 v0_1_)) a0 a1) (by kernel_rfl) (congrArg (fun l=>Fm call k l a0 a1) (funext fun a0=>funext fun a1=>funext fun v0_1_=>L0_eq call k (fun _ _=>none) a0 a1 k v0_1_))
end spec_l8In
namespace spec_l8Different
abbrev R:=(((List ((List Int)×(Int×(Int×Unit))))×Unit)×Unit)
def S0(a0:YB_2)(v0_1:Int)(v0_2:YB_2):St:=⟨mkS 27 [(0,.v (.slc (.pair (.slc tI) tTm)) (a0)),(3,.ref [500003]),(4,.v tI v0_1)],[([500003],.list 38 (.pair (.slc tI) tTm) v0_2)]⟩
def step0(call:Cl)(k:Nat)(a0:YB_2)(r0:(Int)→YB_1→Option R)(v0_1:Int)(v0_2:YB_2):Option R:=bif decide (v0_1<(↑a0.length:Int))then bif decide (0≤v0_1)then(lget a0 v0_1.toNat).bind fun(y0:YB_5)=>(call 169 s_spec_l8In (v0_2,y0,())).bind fun(y1:(Bool×Unit)×Unit)=>bif !y1.1.1 then bif decide (0≤v0_1)then(lget a0 v0_1.toNat).bind fun(y2:YB_5)=>bif decide ((v0_2.length+[y2].length)*ti38.bytes≤140737488355328)then r0 (i64.wrap (v0_1+1)) (v0_2++[y2])else none else none else r0 (i64.wrap (v0_1+1)) v0_2 else none else some ((v0_2,()),())
def L0(call:Cl)(k:Nat)(a0:YB_2):Nat→(Int)→YB_1→Option R|0,_,_=>none|n+1,v0_1,v0_2=>step0 call k a0 (L0 call k a0 n) v0_1 v0_2
def Fm(call:Cl)(k:Nat)(l0:YB_1→(Int)→YB_1→Option R)(a0:YB_2):Option R:=l0 a0 0 []
def F(call:Cl)(k:Nat)(a0:YB_2):Option R:=Fm call k (fun a0_ v0_1_ v0_2_=>L0 call k a0_ k v0_1_ v0_2_) a0
theorem L0_eq(call:Cl)(k:Nat)(J:Nat→St→Option R)(a0:YB_2):∀(n:Nat)(x:((Int)×YB_1)),siteI E call n_spec_l8Different k s_spec_l8Different (a0,()) J 0 n (S0 a0 x.1 x.2)=L0 call k a0 n x.1 x.2:=by
  refine loop_eq (s:=s_spec_l8Different) (fun x=>S0 a0 x.1 x.2) (fun n x=>L0 call k a0 n x.1 x.2) (fun r x=>step0 call k a0 (fun v0_1 v0_2=>r (v0_1,v0_2)) x.1 x.2) (fun _=>rfl) (fun _ _=>rfl) fun J0 x=>?_
  kernel_rfl
theorem F_eq(call:Cl)(k:Nat)(a0:YB_2):bodyK E call n_spec_l8Different k s_spec_l8Different (a0,())=F call k a0:=by
  exact Eq.trans (b:=Fm call k (fun a0 v0_1_ v0_2_=>siteI E call n_spec_l8Different k s_spec_l8Different (a0,()) (fun _ _=>none) 0 k (S0 a0 v0_1_ v0_2_)) a0) (by kernel_rfl) (congrArg (fun l=>Fm call k l a0) (funext fun a0=>funext fun v0_1_=>funext fun v0_2_=>L0_eq call k (fun _ _=>none) a0 k (v0_1_,v0_2_)))
end spec_l8Different
namespace impl_keyOf
abbrev R:=((ByteArray×Unit)×Unit)
def S0(a0:YB_4)(v0_2:Int)(v0_3:(List Int)):St:=⟨mkS 30 [(1,.p [500001] [] 0),(3,.ref [500003]),(8,.v (.slc tI) (a0.1)),(9,.v tI ((↑(List.length a0.1):Int))),(10,.v tI v0_2)],[([500003],.list 5 (.int .u8) v0_3),([500001],.box (.v (.pair (.slc tI) tTm) ((a0.1),((a0.2.1),((a0.2.2.1),())))))]⟩
def step0(call:Cl)(k:Nat)(a0:YB_4)(r0:(Int)→((List Int))→Option R)(v0_2:Int)(v0_3:(List Int)):Option R:=bif decide (v0_2<(↑(List.length a0.1):Int))then bif decide (0≤v0_2)then(lget a0.1 v0_2.toNat).bind fun(y0:Int)=>bif decide ((v0_3.length+[IntKind.u8.wrap y0].length)*ti5.bytes≤140737488355328)then r0 (i64.wrap (v0_2+1)) (v0_3++[IntKind.u8.wrap y0])else none else none else bif decide ((v0_3.length+[IntKind.u8.wrap a0.2.1,IntKind.u8.wrap a0.2.2.1].length)*ti5.bytes≤140737488355328)then some ((bytesOf (v0_3++[IntKind.u8.wrap a0.2.1,IntKind.u8.wrap a0.2.2.1]),()),())else none
def L0(call:Cl)(k:Nat)(a0:YB_4):Nat→(Int)→((List Int))→Option R|0,_,_=>none|n+1,v0_2,v0_3=>step0 call k a0 (L0 call k a0 n) v0_2 v0_3
def Fm(call:Cl)(k:Nat)(l0:YB_3→(Int)→((List Int))→Option R)(a0:YB_4):Option R:=l0 a0 0 []
def F(call:Cl)(k:Nat)(a0:YB_4):Option R:=Fm call k (fun a0_ v0_2_ v0_3_=>L0 call k a0_ k v0_2_ v0_3_) a0
theorem L0_eq(call:Cl)(k:Nat)(J:Nat→St→Option R)(a0:YB_4):∀(n:Nat)(x:((Int)×((List Int)))),siteI E call n_impl_keyOf k s_impl_keyOf (a0,()) J 0 n (S0 a0 x.1 x.2)=L0 call k a0 n x.1 x.2:=by
  refine loop_eq (s:=s_impl_keyOf) (fun x=>S0 a0 x.1 x.2) (fun n x=>L0 call k a0 n x.1 x.2) (fun r x=>step0 call k a0 (fun v0_2 v0_3=>r (v0_2,v0_3)) x.1 x.2) (fun _=>rfl) (fun _ _=>rfl) fun J0 x=>?_
  kernel_rfl
theorem F_eq(call:Cl)(k:Nat)(a0:YB_4):bodyK E call n_impl_keyOf k s_impl_keyOf (a0,())=F call k a0:=by
  exact Eq.trans (b:=Fm call k (fun a0 v0_2_ v0_3_=>siteI E call n_impl_keyOf k s_impl_keyOf (a0,()) (fun _ _=>none) 0 k (S0 a0 v0_2_ v0_3_)) a0) (by kernel_rfl) (congrArg (fun l=>Fm call k l a0) (funext fun a0=>funext fun v0_2_=>funext fun v0_3_=>L0_eq call k (fun _ _=>none) a0 k (v0_2_,v0_3_)))
end impl_keyOf
namespace impl_tally_add
abbrev R:=(Unit×(((Option (List (ByteArray×Int)))×((List ((List Int)×(Int×(Int×Unit))))×((List Int)×Unit)))×Unit))
def Fm(call:Cl)(k:Nat)(a0:YB_0)(a1:YB_4):Option R:=bif Option.isNone a0.1 then(call 214 s_impl_keyOf (a1,())).bind fun(y0:((ByteArray×Unit)×Unit))=>bif !(mfind (β:=Int) ti9.zero.t ((some []).getD []) y0.1.1).isSome then bif decide ((List.length a0.2.1+[a1].length)*ti38.bytes≤140737488355328)then bif decide ((List.length a0.2.2.1+[(0:Int)].length)*ti2.bytes≤140737488355328)then bif decide (0≤(↑(List.length a0.2.1):Int))&&decide ((↑(List.length a0.2.1):Int).toNat<(a0.2.2.1++[(0:Int)]).length)then(lget (a0.2.2.1++[(0:Int)]) (↑(List.length a0.2.1):Int).toNat).bind fun(y1:Int)=>bif decide (0≤(↑(List.length a0.2.1):Int))&&decide ((↑(List.length a0.2.1):Int).toNat<(a0.2.2.1++[(0:Int)]).length)then(lget (a0.2.2.1++[(0:Int)]) (↑(List.length a0.2.1):Int).toNat).bind fun(y2:Int)=>some ((),(some (mput ti9.zero.t [] y0.1.1 (↑(List.length a0.2.1):Int)),a0.2.1++[a1],(a0.2.2.1++[(0:Int)]).set (↑(List.length a0.2.1):Int).toNat (i64.wrap (y1+1)),a0.2.2.2),())else none else none else none else none else bif decide (0≤(mfind (β:=Int) ti9.zero.t ((some []).getD []) y0.1.1).getD (Int.ofNat (nat_lit 0)))&&decide (((mfind (β:=Int) ti9.zero.t ((some []).getD []) y0.1.1).getD (Int.ofNat (nat_lit 0))).toNat<List.length a0.2.2.1)then(lget a0.2.2.1 ((mfind (β:=Int) ti9.zero.t ((some []).getD []) y0.1.1).getD (Int.ofNat (nat_lit 0))).toNat).bind fun(y3:Int)=>bif decide (0≤(mfind (β:=Int) ti9.zero.t ((some []).getD []) y0.1.1).getD (Int.ofNat (nat_lit 0)))&&decide (((mfind (β:=Int) ti9.zero.t ((some []).getD []) y0.1.1).getD (Int.ofNat (nat_lit 0))).toNat<List.length a0.2.2.1)then(lget a0.2.2.1 ((mfind (β:=Int) ti9.zero.t ((some []).getD []) y0.1.1).getD (Int.ofNat (nat_lit 0))).toNat).bind fun(y4:Int)=>some ((),(some [],a0.2.1,List.set a0.2.2.1 ((mfind (β:=Int) ti9.zero.t ((some []).getD []) y0.1.1).getD (Int.ofNat (nat_lit 0))).toNat (i64.wrap (y3+1)),a0.2.2.2),())else none else none else(call 214 s_impl_keyOf (a1,())).bind fun(y5:((ByteArray×Unit)×Unit))=>bif !(mfind Ty.str (Option.getD a0.1 []) y5.1.1).isSome then a0.1.bind fun(y6:List (ByteArray×Int))=>bif decide ((List.length a0.2.1+[a1].length)*ti38.bytes≤140737488355328)then bif decide ((List.length a0.2.2.1+[(0:Int)].length)*ti2.bytes≤140737488355328)then bif decide (0≤(↑(List.length a0.2.1):Int))&&decide ((↑(List.length a0.2.1):Int).toNat<(a0.2.2.1++[(0:Int)]).length)then(lget (a0.2.2.1++[(0:Int)]) (↑(List.length a0.2.1):Int).toNat).bind fun(y7:Int)=>bif decide (0≤(↑(List.length a0.2.1):Int))&&decide ((↑(List.length a0.2.1):Int).toNat<(a0.2.2.1++[(0:Int)]).length)then(lget (a0.2.2.1++[(0:Int)]) (↑(List.length a0.2.1):Int).toNat).bind fun(y8:Int)=>some ((),(some (mput Ty.str y6 y5.1.1 (↑(List.length a0.2.1):Int)),a0.2.1++[a1],(a0.2.2.1++[(0:Int)]).set (↑(List.length a0.2.1):Int).toNat (i64.wrap (y7+1)),a0.2.2.2),())else none else none else none else none else bif decide (0≤(mfind Ty.str (Option.getD a0.1 []) y5.1.1).getD (Int.ofNat (nat_lit 0)))&&decide (((mfind Ty.str (Option.getD a0.1 []) y5.1.1).getD (Int.ofNat (nat_lit 0))).toNat<List.length a0.2.2.1)then(lget a0.2.2.1 ((mfind Ty.str (Option.getD a0.1 []) y5.1.1).getD (Int.ofNat (nat_lit 0))).toNat).bind fun(y9:Int)=>bif decide (0≤(mfind Ty.str (Option.getD a0.1 []) y5.1.1).getD (Int.ofNat (nat_lit 0)))&&decide (((mfind Ty.str (Option.getD a0.1 []) y5.1.1).getD (Int.ofNat (nat_lit 0))).toNat<List.length a0.2.2.1)then(lget a0.2.2.1 ((mfind Ty.str (Option.getD a0.1 []) y5.1.1).getD (Int.ofNat (nat_lit 0))).toNat).bind fun(y10:Int)=>some ((),(a0.1,a0.2.1,List.set a0.2.2.1 ((mfind Ty.str (Option.getD a0.1 []) y5.1.1).getD (Int.ofNat (nat_lit 0))).toNat (i64.wrap (y9+1)),a0.2.2.2),())else none else none
def F(call:Cl)(k:Nat)(a0:YB_0)(a1:YB_4):Option R:=Fm call k a0 a1
theorem F_eq(call:Cl)(k:Nat)(a0:YB_0)(a1:YB_4):bodyK E call n_impl_tally_add k s_impl_tally_add (a0,a1,())=F call k a0 a1:=by kernel_rfl
end impl_tally_add
end Go.Proofs.YtjgfofcgmcnblaaGreat.Pf
namespace Go.Proofs.YtjgfofcgmcnblaaGreat.Pf
open Go Go.Pv
theorem drop_eq {α:Type}{a b:List α}{j:Nat}(h1:j<a.length)(h2:j<b.length):a.drop j=b.drop j↔a[j]=b[j]∧a.drop (j+1)=b.drop (j+1):=by
  rw[List.drop_eq_getElem_cons h1,List.drop_eq_getElem_cons h2,List.cons.injEq]
theorem likeO_ans(a b:Oc)(h1:a.1.length≤1048576)(h2:b.1.length≤1048576):Ans n_spec_LikeOutcomes s_spec_LikeOutcomes (a,b,()) ((bo (a=b),()),()):=by
  obtain⟨l,e,c,⟨⟩⟩:=a;obtain⟨l',e',c',⟨⟩⟩:=b;refine Gv.ans (Gv.of (fun k=>spec_LikeOutcomes.F_eq (cl k) k (l,e,c,()) (l',e',c',())) ?_);unfold spec_LikeOutcomes.F spec_LikeOutcomes.Fm;dsimp only at h1 h2⊢;have e0:((l,e,c,()):Oc)=(l',e',c',())↔(l.length=l'.length∧l=l')∧e=e'∧c=c':=by
    constructor
    . intro h;simp only[Prod.mk.injEq,and_true]at h;exact⟨⟨congrArg _ h.1,h.1⟩,h.2.1,h.2.2⟩
    . rintro⟨⟨_,rfl⟩,rfl,rfl⟩;rfl
  rw[bo_congr e0];by_cases c1:l.length=l'.length
  case neg=>rw[bo_f (fun e=>c1 e.1.1)];exact Tq.bt (bne_iff_ne.2 (by omega)) (Tq.ret rfl)
  refine Tq.bf (bne_eq_false_iff_eq.2 (by omega)) ?_;by_cases c2:e=e'
  case neg=>rw[bo_f (fun e=>c2 e.2.1)];exact Tq.bt (bne_iff_ne.2 c2) (Tq.ret rfl)
  refine Tq.bf (bne_eq_false_iff_eq.2 c2) ?_;by_cases c3:c=c'
  case neg=>rw[bo_f (fun e=>c3 e.2.2)];exact Tq.bt (bne_iff_ne.2 c3) (Tq.ret rfl)
  refine Tq.bf (bne_eq_false_iff_eq.2 c3) ?_;rw[bo_congr (show((l.length=l'.length∧l=l')∧e=e'∧c=c')↔l.drop 0=l'.drop 0 from⟨fun h=>h.1.2,fun h=>⟨⟨c1,h⟩,c2,c3⟩⟩)];have key:∀(d j:Nat),l.length-j=d→Tq (d+1) (fun k q=>spec_LikeOutcomes.L0 (cl k) k (l,e,c,()) (l',e',c',()) q (j:Int)) (· =((bo (l.drop j=l'.drop j),()),())):=by
    intro d
    induction d with
    | zero=>
      intro j hd;refine Tq.succ ?_;show Tq _ (fun k q=>spec_LikeOutcomes.step0 (cl k) k ..) _
      unfold spec_LikeOutcomes.step0;rw[bo_t (by rw[List.drop_of_length_le (by omega),List.drop_of_length_le (by omega)])];exact Tq.bf (dnlt (by dsimp only;omega)) (Tq.ret rfl)
    | succ d ih=>
      intro j hd;have hj:j<l.length:=by omega
      have hj':j<l'.length:=by omega
      refine Tq.succ ?_;show Tq _ (fun k q=>spec_LikeOutcomes.step0 (cl k) k ..) _
      unfold spec_LikeOutcomes.step0;refine Tq.bt (dlt hj) (Tq.bt (dle0 _) (Tq.some (lg hj) (Tq.bt (dle0 _) (Tq.some (lg hj') ?_))));rw[bo_congr (drop_eq hj hj')];by_cases c4:l[j]=l'[j]
      . refine Tq.bf (bne_eq_false_iff_eq.2 c4) ?_;rw[bo_congr (and_iff_right c4),ws hj (by omega)];exact ih (j+1) (by omega)
      . rw[bo_f (fun e=>c4 e.1)];exact Tq.bt (bne_iff_ne.2 c4) (Tq.ret rfl)
  exact Tq.diag (key _ 0 rfl)
def Fews(l:List Oc):Prop:=∀o∈l,OcOk o
theorem mem_drop {α:Type}{o:α}{a:List α}{j:Nat}(h1:j<a.length):o∈a.drop j↔a[j]=o∨o∈a.drop (j+1):=by
  rw[List.drop_eq_getElem_cons h1,List.mem_cons];exact⟨fun h=>h.imp Eq.symm id,fun h=>h.imp Eq.symm id⟩
theorem l8In_ans {l:List Oc}{o:Oc}(hl:Fews l)(hn:l.length≤1048576)(ho:OcOk o):Ans n_spec_l8In s_spec_l8In (l,o,()) ((bo (o∈l),()),()):=by
  refine Gv.ans (Gv.of (fun k=>spec_l8In.F_eq (cl k) k l o) ?_);unfold spec_l8In.F spec_l8In.Fm;have key:∀(d j:Nat),l.length-j=d→Tq (d+1) (fun k q=>spec_l8In.L0 (cl k) k l o q (j:Int)) (· =((bo (o∈l.drop j),()),())):=by
    intro d
    induction d with
    | zero=>
      intro j hd;refine Tq.succ ?_;show Tq _ (fun k q=>spec_l8In.step0 (cl k) k ..) _
      unfold spec_l8In.step0;rw[bo_f (by rw[List.drop_of_length_le (by omega)];exact fun h=>by cases h)];exact Tq.bf (dnlt (by omega)) (Tq.ret rfl)
    | succ d ih=>
      intro j hd;have hj:j<l.length:=by omega
      have hA:=likeO_ans l[j] o (by have:=(hl _ (List.getElem_mem hj)).l;omega) (by have:=ho.l;omega);refine Tq.succ ?_;show Tq _ (fun k q=>spec_l8In.step0 (cl k) k ..) _
      unfold spec_l8In.step0;refine Tq.bt (dlt hj) (Tq.bt (dle0 _) (Tq.some (lg hj) (Tq.ba hA ?_)));rw[bo_congr (mem_drop hj)];by_cases c:l[j]=o
      . rw[bo_t (P:=l[j]=o∨o∈l.drop (j+1)) (.inl c)];exact Tq.bt (bo_t c) (Tq.ret rfl)
      . refine Tq.bf (bo_f c) ?_;rw[bo_congr (show(l[j]=o∨o∈l.drop (j+1))↔o∈l.drop (j+1)from⟨fun h=>h.resolve_left c,.inr⟩),ws hj (by omega)];exact ih (j+1) (by omega)
  exact Tq.diag (key _ 0 rfl)
def ddF:List Oc→List Oc→List Oc
  |acc,[]=>acc
  |acc,o::l=>if o∈acc then ddF acc l else ddF (acc++[o]) l
theorem dd_len:∀(acc l:List Oc),(ddF acc l).length≤acc.length+l.length
  |acc,[]=>by unfold ddF;simp
  | acc,o::l=>by
    unfold ddF;split
    . have:=dd_len acc l;simp only[List.length_cons];omega
    . have:=dd_len (acc++[o]) l;simp only[List.length_append,List.length_cons,List.length_nil]at this⊢;omega
theorem dd_ok:∀{acc l:List Oc},Fews acc→Fews l→Fews (ddF acc l)
  |acc,[],h1,_=>h1
  | acc,o::l,h1,h2=>by
    have h3:Fews l:=fun x hx=>h2 x (List.mem_cons_of_mem _ hx)
    unfold ddF;split
    . exact dd_ok h1 h3
    . refine dd_ok (fun x hx=>?_) h3;rcases List.mem_append.1 hx with h|h
      . exact h1 x h
      . rw[List.mem_singleton.1 h];exact h2 _ List.mem_cons_self
theorem ti_oc:ti38.bytes=40:=rfl
theorem diff_ans {l:List Oc}(hl:Fews l)(hn:l.length≤1048576):Ans n_spec_l8Different s_spec_l8Different (l,()) ((ddF [] l,()),()):=by
  refine Gv.ans (Gv.of (fun k=>spec_l8Different.F_eq (cl k) k l) ?_);unfold spec_l8Different.F spec_l8Different.Fm;have key:∀(d j:Nat)(acc:List Oc),l.length-j=d→Fews acc→acc.length+d≤1048576→Tq (d+1) (fun k q=>spec_l8Different.L0 (cl k) k l q (j:Int) acc) (· =((ddF acc (l.drop j),()),())):=by
    intro d
    induction d with
    | zero=>
      intro j acc hd _ _;refine Tq.succ ?_;show Tq _ (fun k q=>spec_l8Different.step0 (cl k) k ..) _
      unfold spec_l8Different.step0;rw[List.drop_of_length_le (by omega)];exact Tq.bf (dnlt (by omega)) (Tq.ret rfl)
    | succ d ih=>
      intro j acc hd ha hb;have hj:j<l.length:=by omega
      have hI:=l8In_ans ha (by omega) (hl _ (List.getElem_mem hj));refine Tq.succ ?_;show Tq _ (fun k q=>spec_l8Different.step0 (cl k) k ..) _
      unfold spec_l8Different.step0;refine Tq.bt (dlt hj) (Tq.bt (dle0 _) (Tq.some (lg hj) (Tq.ba hI ?_)));have e:=List.drop_eq_getElem_cons hj;rw[e,ddF,ws hj (by omega)];by_cases c:l[j]∈acc
      . rw[if_pos c];exact Tq.bf (by show(!bo _)=false;rw[bo_t c];rfl) (ih (j+1) acc (by omega) ha (by omega))
      . rw[if_neg c];refine Tq.bt (by show(!bo _)=true;rw[bo_f c];rfl) (Tq.bt (dle0 _) (Tq.some (lg hj) (Tq.bt (apb (by rw[ti_oc];simp only[List.length_cons,List.length_nil];omega)) ?_)));refine ih (j+1) (acc++[l[j]]) (by omega) (fun x hx=>?_) (by simp;omega);rcases List.mem_append.1 hx with h|h
        . exact ha x h
        . rw[List.mem_singleton.1 h];exact hl _ (List.getElem_mem hj)
  exact Tq.diag (key _ 0 [] rfl (fun _ h=>by cases h) (by simp;omega))
def key(o:Oc):ByteArray:=bytesOf (o.1.map IntKind.u8.wrap++[IntKind.u8.wrap o.2.1,IntKind.u8.wrap o.2.2.1])
theorem w8 {x:Int}(h0:0≤x)(h1:x≤255):IntKind.u8.wrap x=x:=by
  simp only[IntKind.wrap,IntKind.bits,IntKind.signed,Bool.false_and];rw[if_neg (by decide)];omega
theorem bytesOf_inj {a b:List Int}(ha:∀x∈a,0≤x∧x≤255)(hb:∀x∈b,0≤x∧x≤255)(h:bytesOf a=bytesOf b):a=b:=by
  have h1:(a.map fun n=>UInt8.ofNat n.toNat)=b.map fun n=>UInt8.ofNat n.toNat:=by
    have:=congrArg (fun x=>x.data.toList) h;simpa[bytesOf]using this
  have back:∀{l:List Int},(∀x∈l,0≤x∧x≤255)→(l.map fun n=>UInt8.ofNat n.toNat).map (fun u=>(u.toNat:Int))=l:=by
    intro l hl;rw[List.map_map];conv=>rhs;rw[←List.map_id l]
    refine List.map_congr_left fun x hx=>?_
    have:=hl x hx;show((UInt8.ofNat x.toNat).toNat:Int)=x
    rw[UInt8.toNat_ofNat'];omega
  rw[←back ha,h1,back hb]
theorem map_w8 {l:List Int}(h:∀x∈l,0≤x∧x≤255):l.map IntKind.u8.wrap=l:=by
  conv=>rhs;rw[←List.map_id l]
  exact List.map_congr_left fun x hx=>w8 (h x hx).1 (h x hx).2
theorem key_inj {a b:Oc}(ha:OcOk a)(hb:OcOk b)(h:key a=key b):a=b:=by
  obtain⟨l,e,c,⟨⟩⟩:=a;obtain⟨l',e',c',⟨⟩⟩:=b;unfold key at h;rw[map_w8 ha.vs,map_w8 hb.vs,w8 ha.e.1 ha.e.2,w8 ha.c.1 ha.c.2,w8 hb.e.1 hb.e.2,w8 hb.c.1 hb.c.2]at h;have hr:∀{o:Oc},OcOk o→∀x∈o.1++[o.2.1,o.2.2.1],0≤x∧x≤255:=fun ho x hx=>by
    rcases List.mem_append.1 hx with h|h
    . exact ho.vs x h
    . simp only[List.mem_cons,List.not_mem_nil,or_false]at h;rcases h with rfl|rfl
      . exact ho.e
      . exact ho.c
  obtain⟨h1,h2⟩:=List.append_inj' (bytesOf_inj (hr ha) (hr hb) h) rfl;simp only[List.cons.injEq,and_true]at h2;obtain⟨rfl,rfl⟩:=h2;have h1:l=l':=h1;rw[h1]
theorem keyOf_ans {o:Oc}(ho:OcOk o):Ans n_impl_keyOf s_impl_keyOf (o,()) ((key o,()),()):=by
  have hl:=ho.l;refine Gv.ans (Gv.of (fun k=>impl_keyOf.F_eq (cl k) k o) ?_);unfold impl_keyOf.F impl_keyOf.Fm;have t5:ti5.bytes=1:=rfl;have kk:∀(d j:Nat)(acc:List Int),o.1.length-j=d→acc.length+d≤400→Tq (d+1) (fun k q=>impl_keyOf.L0 (cl k) k o q (j:Int) acc) (· =((bytesOf (acc++((o.1.drop j).map IntKind.u8.wrap++[IntKind.u8.wrap o.2.1,IntKind.u8.wrap o.2.2.1])),()),())):=by
    intro d
    induction d with
    | zero=>
      intro j acc hd h2;refine Tq.succ ?_;show Tq _ (fun k q=>impl_keyOf.step0 (cl k) k ..) _
      unfold impl_keyOf.step0;rw[List.drop_of_length_le (by omega),List.map_nil,List.nil_append];exact Tq.bf (dnlt (by omega)) (Tq.bt (apb (by rw[t5];simp only[List.length_cons,List.length_nil];omega)) (Tq.ret rfl))
    | succ d ih=>
      intro j acc hd h2;have hj:j<o.1.length:=by omega
      refine Tq.succ ?_;show Tq _ (fun k q=>impl_keyOf.step0 (cl k) k ..) _
      unfold impl_keyOf.step0;refine Tq.bt (dlt hj) (Tq.bt (dle0 _) (Tq.some (lg hj) (Tq.bt (apb (by rw[t5];simp only[List.length_cons,List.length_nil];omega)) ?_)));rw[ws hj (by omega),List.drop_eq_getElem_cons hj,List.map_cons,List.cons_append];have:=ih (j+1) (acc++[IntKind.u8.wrap o.1[j]]) (by omega) (by simp;omega);rw[List.append_assoc acc,List.singleton_append]at this;exact this
  exact Tq.diag (kk _ 0 [] rfl (by simp;omega))
abbrev Tly:=Option (List (ByteArray×Int))×(List Oc×(List Int×Unit))
abbrev Tal:=List (Oc×Int)
def bump:Tal→Oc→Tal
  |[],o=>[(o,1)]
  |(a,n)::l,o=>if a=o then(a,n+1)::l else(a,n)::bump l o
def plc:List Oc→Oc→Nat→Option Int
  |[],_,_=>none
  |a::l,o,j=>if a=o then some (j:Int)else plc l o (j+1)
theorem plc_none:∀{l:List Oc}{o:Oc}{j:Nat},plc l o j=none↔o∉l
  |[],o,j=>by simp[plc]
  | a::l,o,j=>by
    unfold plc;by_cases c:a=o
    . rw[if_pos c];simp[c]
    . rw[if_neg c,plc_none];simp only[List.mem_cons,not_or];exact⟨fun h=>⟨fun e=>c e.symm,h⟩,fun h=>h.2⟩
theorem plc_some:∀{l:List Oc}{o:Oc}{j:Nat}{x:Int},plc l o j=some x→∃(i:Nat)(h:i<l.length),x=((j+i:Nat):Int)∧l[i]=o
  |[],o,j,x,h=>by cases h
  | a::l,o,j,x,h=>by
    unfold plc at h;by_cases c:a=o
    . rw[if_pos c]at h;cases h;exact⟨0,by simp,rfl,c⟩
    . rw[if_neg c]at h;obtain⟨i,hi,h1,h2⟩:=plc_some h;exact⟨i+1,by simpa using hi,by rw[h1];congr 1;omega,by simpa using h2⟩
theorem plc_app:∀{l:List Oc}{o o':Oc}{j:Nat},plc (l++[o]) o' j=match plc l o' j with|some i=>some i|none=>if o=o' then some ((j+l.length:Nat):Int)else none
  |[],o,o',j=>by simp only[List.nil_append,plc,List.length_nil,Nat.add_zero]
  | a::l,o,o',j=>by
    simp only[List.cons_append,plc];by_cases c:a=o'
    . simp only[if_pos c]
    . simp only[if_neg c];rw[plc_app];simp only[List.length_cons];rw[show j+1+l.length=j+(l.length+1) by omega]
theorem bump_fst:∀(L:Tal)(o:Oc),(bump L o).map (·.1)=if o∈L.map (·.1)then L.map (·.1)else L.map (·.1)++[o]
  |[],o=>by simp[bump]
  | (a,n)::l,o=>by
    unfold bump;by_cases c:a=o
    . rw[if_pos c,if_pos (by simp[c])];rfl
    . rw[if_neg c];simp only[List.map_cons,bump_fst l o];by_cases c2:o∈l.map (·.1)
      . rw[if_pos c2,if_pos (List.mem_cons_of_mem _ c2)]
      . rw[if_neg c2,if_neg (fun h=>by rcases List.mem_cons.1 h with h|h;exact c h.symm;exact c2 h)];rfl
theorem bump_new:∀(L:Tal)(o:Oc),o∉L.map (·.1)→bump L o=L++[(o,1)]
  |[],o,_=>rfl
  | (a,n)::l,o,h=>by
    simp only[List.map_cons,List.mem_cons,not_or]at h;unfold bump;rw[if_neg (fun e=>h.1 e.symm),bump_new l o h.2];rfl
theorem bump_old:∀(L:Tal)(o:Oc)(i j:Nat)(h:i<L.length),plc (L.map (·.1)) o j=some ((j+i:Nat):Int)→(bump L o).map (·.2)=(L.map (·.2)).set i (L[i].2+1)
  |[],o,i,j,h,_=>by cases h
  | (a,n)::l,o,i,j,h,e=>by
    simp only[List.map_cons,plc]at e;unfold bump;by_cases c:a=o
    . rw[if_pos c]at e;obtain rfl:i=0:=by have:=Option.some.inj e;omega
      rw[if_pos c];rfl
    . rw[if_neg c]at e;obtain⟨i',_,e1,_⟩:=plc_some e;obtain⟨i,rfl⟩:∃m,i=m+1:=⟨i-1,by omega⟩
      rw[if_neg c];simp only[List.map_cons,List.set_cons_succ,List.getElem_cons_succ];rw[bump_old l o i (j+1) (by simpa using h) (by rw[e];congr 2;omega)]
def Bd(L:Tal)(c:Nat):Prop:=L.length≤c∧∀x∈L,OcOk x.1∧0≤x.2∧x.2≤c
theorem Bd.bump:∀{L:Tal}{c:Nat}{o:Oc},Bd L c→OcOk o→Bd (Pf.bump L o) (c+1)
  |[],c,o,h,ho=>⟨by simp[Pf.bump],fun x hx=>by simp only[Pf.bump,List.mem_singleton]at hx;rw[hx];exact⟨ho,by dsimp only;omega,by dsimp only;omega⟩⟩
  | (a, n)::l,c,o,h,ho=>by
    have h0:=h.2 _ List.mem_cons_self;have h2:=h.1;simp only[List.length_cons]at h2;unfold Pf.bump;by_cases e:a=o
    . rw[if_pos e];refine⟨by simp;omega,fun x hx=>?_⟩;rcases List.mem_cons.1 hx with rfl|hx
      . exact⟨h0.1,by dsimp only at h0⊢;omega,by dsimp only at h0⊢;omega⟩
      . have:=h.2 x (List.mem_cons_of_mem _ hx);exact⟨this.1,by omega,by omega⟩
    . rw[if_neg e];have g:Bd (Pf.bump l o) (c+1):=Bd.bump (L:=l) ⟨by omega,fun x hx=>h.2 x (List.mem_cons_of_mem _ hx)⟩ ho;have gl:(Pf.bump l o).length≤l.length+1:=by
        by_cases m:o∈l.map (·.1)
        . have:=congrArg List.length (bump_fst l o);rw[if_pos m]at this;simp only[List.length_map]at this;omega
        . rw[bump_new l o m];simp
      refine⟨by simp;omega,fun x hx=>?_⟩;rcases List.mem_cons.1 hx with rfl|hx
      . exact⟨h0.1,by dsimp only at h0⊢;omega,by dsimp only at h0⊢;omega⟩
      . exact g.2 x hx
theorem eqS {x y:ByteArray}:eqV .str x y=true↔x=y:=⟨fun h=>keyV_eq (t:=.str) rfl h,fun h=>by subst h;show(x==x)=true;rw[beq_toListBytes];exact beq_self_eq_true _⟩
theorem mfind_mput {x y:ByteArray}{v:Int}:∀{es:List (ByteArray×Int)},mfind .str es x=none→mfind .str (mput .str es x v) y=if x=y then some v else mfind .str es y
  | [],_=>by
    show(bif eqV .str y x then some v else none)=_
    by_cases c:x=y
    . rw[if_pos c,eqS.2 c.symm];rfl
    . rw[if_neg c];cases e:eqV .str y x
      . rfl
      . exact absurd (eqS.1 e).symm c
  | (a,b)::l,h=>by
    have h:(bif eqV .str x a then some b else mfind .str l x)=none:=h;cases e:eqV .str x a
    . rw[e]at h;show mfind .str (bif eqV .str x a then(x,v)::l else(a,b)::mput .str l x v) y=_
      rw[e];show(bif eqV .str y a then some b else mfind .str (mput .str l x v) y)=if x=y then some v else(bif eqV .str y a then some b else mfind .str l y)
      rw[mfind_mput h];by_cases c:x=y
      . subst c;rw[e,if_pos rfl,if_pos rfl];rfl
      . rw[if_neg c,if_neg c]
    . rw[e]at h;cases h
structure TlI (st:Tly) (L:Tal):Prop where
  list:st.2.1=L.map (·.1)
  sizes:st.2.2.1=L.map (·.2)
  nn:st.1=none→L=[]
  find:∀o,OcOk o→mfind .str (st.1.getD []) (key o)=plc (L.map (·.1)) o 0
theorem TlI.nil:TlI (none,[],[],()) []:=⟨rfl,rfl,fun _=>rfl,fun _ _=>rfl⟩
theorem find_new {es:List (ByteArray×Int)}{l:List Oc}{o o':Oc}(ho:OcOk o)(ho':OcOk o')(hf:∀o,OcOk o→mfind .str es (key o)=plc l o 0)(h:plc l o 0=none):mfind .str (mput .str es (key o) (l.length:Int)) (key o')=plc (l++[o]) o' 0:=by
  rw[mfind_mput ((hf o ho).trans h),plc_app,hf o' ho'];by_cases c:key o=key o'
  . have e:=key_inj ho ho' c;subst e;rw[if_pos rfl,h];show _=if o=o then some ((0+l.length:Nat):Int)else Option.none
    rw[if_pos rfl,Nat.zero_add]
  . rw[if_neg c];cases plc l o' 0 with
    |some i=>rfl
    | none=>
      show Option.none=if o=o' then _ else _
      rw[if_neg (fun e=>c (by rw[e]))]
theorem set_app {α:Type}{l:List α}{a b:α}:(l++[a]).set l.length b=l++[b]:=by
  rw[List.set_append_right _ _ (Nat.le_refl _),Nat.sub_self];rfl
theorem add_gv {st:Tly}{L:Tal}{c:Nat}(h:TlI st L)(hb:Bd L c)(hc:c≤1048576){o:Oc}(ho:OcOk o):Gv n_impl_tally_add s_impl_tally_add (st,o,()) (fun(r:Unit×(Tly×Unit))=>TlI r.2.1 (bump L o)):=by
  obtain⟨pl,li,si,⟨⟩⟩:=st;obtain⟨h1,h2,h3,h4⟩:=h;dsimp only at h1 h2 h3 h4;subst h1 h2;have hk:=keyOf_ans ho;have hl:=hb.1;refine Gv.of (fun k=>impl_tally_add.F_eq (cl k) k _ _) ?_;unfold impl_tally_add.F impl_tally_add.Fm;have new:∀{es:List (ByteArray×Int)},(∀o,OcOk o→mfind .str es (key o)=plc (L.map (·.1)) o 0)→plc (L.map (·.1)) o 0=none→TlI (some (mput .str es (key o) ((L.map (·.1)).length:Int)),L.map (·.1)++[o],L.map (·.2)++[1],()) (bump L o):=by
    intro es hf hn;have e:=bump_new L o (plc_none.1 hn);rw[e];refine⟨by simp,by simp,fun h=>(by cases h),fun o' ho'=>?_⟩;have:=find_new ho ho' hf hn;rw[List.map_append];exact this
  have ll:(L.map (·.1)).length=L.length:=List.length_map _;have l2:(L.map (·.2)).length=L.length:=List.length_map _;have hw:∀i(h:i<L.length),IntKind.i64.wrap (L[i].2+1)=L[i].2+1:=fun i h=>by
    have:=hb.2 _ (List.getElem_mem h);exact w64 (by omega) (by omega)
  have w1:IntKind.i64.wrap (0+1)=1:=by decide
  have ap1:decide (((L.map (·.1)).length+[o].length)*ti38.bytes≤140737488355328)=true:=apb (by rw[ti_oc,ll];simp only[List.length_cons,List.length_nil];omega);have ap2:decide (((L.map (·.2)).length+[(0:Int)].length)*ti2.bytes≤140737488355328)=true:=apb (by rw[by2,l2];simp only[List.length_cons,List.length_nil];omega);have ix:(decide ((0:Int)≤((L.map (·.1)).length:Int))&&decide ((((L.map (·.1)).length:Int)).toNat<(L.map (·.2)++[(0:Int)]).length))=true:=idx_ok (by rw[ll,List.length_append,l2];exact Nat.lt_succ_self _);have gx:lget (L.map (·.2)++[(0:Int)]) (((L.map (·.1)).length:Int)).toNat=some 0:=by
    rw[Int.toNat_natCast,ll,←l2];exact(List.getElem?_eq_getElem (by rw[List.length_append];exact Nat.lt_succ_self _)).trans (congrArg some (by rw[List.getElem_append_right (Nat.le_refl _)];simp))
  cases pl with
  | none=>
    have e0:L=[]:=h3 rfl;refine Tq.bt rfl (Tq.ba hk ?_);have hn:plc (L.map (·.1)) o 0=none:=by rw[e0];rfl
    refine Tq.bt rfl (Tq.bt ap1 (Tq.bt ap2 (Tq.bt ix (Tq.some gx (Tq.bt ix (Tq.some gx ?_))))));refine Tq.ret ?_;dsimp only;rw[w1,Int.toNat_natCast];have:=new (es:=[]) (fun o' ho'=>by rw[e0];rfl) hn;rw[ll]at this⊢;rw[←l2,set_app,l2];exact this
  | some es=>
    refine Tq.bf rfl (Tq.ba hk ?_);have h4:∀o,OcOk o→mfind .str es (key o)=plc (L.map (·.1)) o 0:=h4
    cases hpl:plc (L.map (·.1)) o 0 with
    | none=>
      have hf:mfind .str ((some es).getD []) (key o)=none:=(h4 o ho).trans hpl;refine Tq.bt (by show(!(mfind .str _ (key o)).isSome)=true;rw[hf];rfl) (Tq.some rfl (Tq.bt ap1 (Tq.bt ap2 (Tq.bt ix (Tq.some gx (Tq.bt ix (Tq.some gx ?_)))))));refine Tq.ret ?_;dsimp only;rw[w1,Int.toNat_natCast];have:=new h4 hpl;rw[ll]at this⊢;rw[←l2,set_app,l2];exact this
    | some x=>
      have hf:mfind .str ((some es).getD []) (key o)=some x:=(h4 o ho).trans hpl;obtain⟨i,hi,rfl,hio⟩:=plc_some hpl;rw[Nat.zero_add]at hf hpl;have hi2:i<L.length:=by rw[ll]at hi;exact hi
      have hi3:i<(L.map (·.2)).length:=by rw[l2];exact hi2
      have e:=bump_old L o i 0 hi2 (by rw[hpl,Nat.zero_add]);have ix2:(decide ((0:Int)≤(mfind .str ((some es).getD []) (key o)).getD (Int.ofNat (nat_lit 0)))&&decide (((mfind .str ((some es).getD []) (key o)).getD (Int.ofNat (nat_lit 0))).toNat<(L.map (·.2)).length))=true:=by rw[hf];exact idx_ok hi3
      have gx2:lget (L.map (·.2)) ((mfind .str ((some es).getD []) (key o)).getD (Int.ofNat (nat_lit 0))).toNat=some L[i].2:=by
        rw[hf];exact(lg hi3).trans (congrArg some (List.getElem_map _))
      refine Tq.bf (by show(!(mfind .str _ (key o)).isSome)=false;rw[hf];rfl) (Tq.bt ix2 (Tq.some gx2 (Tq.bt ix2 (Tq.some gx2 ?_))));refine Tq.ret ?_;dsimp only;rw[hw i hi2];have hm:o∈L.map (·.1):=hio▸List.getElem_mem hi;have e2:=bump_fst L o;rw[if_pos hm]at e2;refine⟨e2.symm,?_,fun h=>(by cases h),fun o' ho'=>by rw[e2];exact h4 o' ho'⟩;rw[e];show(L.map (·.2)).set _ _=_
      have:((mfind .str ((some es).getD []) (key o)).getD (Int.ofNat (nat_lit 0))).toNat=i:=by rw[hf];exact Int.toNat_natCast i
      exact congrArg (fun n=>(L.map (·.2)).set n (L[i].2+1)) this
def tal(L:Tal)(l:List Oc):Tal:=l.foldl bump L
theorem tal_fst:∀(L:Tal)(l:List Oc),(tal L l).map (·.1)=ddF (L.map (·.1)) l
  |L,[]=>rfl
  | L,o::l=>by
    show(tal (bump L o) l).map (·.1)=_
    rw[tal_fst,bump_fst,ddF];split<;>rfl
theorem tal_bd:∀{L:Tal}{l:List Oc}{c:Nat},Bd L c→Fews l→Bd (tal L l) (c+l.length)
  |L,[],c,h,_=>h
  | L,o::l,c,h,hl=>by
    have:=tal_bd (h.bump (hl o List.mem_cons_self)) (l:=l) fun x hx=>hl x (List.mem_cons_of_mem _ hx)
    rw[show c+(o::l).length=c+1+l.length by simp only[List.length_cons];omega];exact this
end Go.Proofs.YtjgfofcgmcnblaaGreat.Pf
namespace Go.Proofs.YtjgfofcgmcnblaaGreat.Pf
open Go Go.Pv IntKind
abbrev YC_0:Type:=(Int×((List (Int×(Int×Unit)))×((List (Int×(Int×Unit)))×(Int×((List Int)×((List (Int×(Int×((List (Int×(Int×Unit)))×((List (Int×(Int×Unit)))×Unit)))))×Unit))))))
abbrev YC_1:Type:=((List ((List Int)×(Int×(Int×Unit)))))
abbrev YC_2:Type:=(List ((List Int)×(Int×(Int×Unit))))
abbrev YC_4:Type:=(((List Int)×Unit)×Unit)
abbrev YC_5:Type:=(List (List Int))
namespace spec_l8Table
abbrev R:=(((List (List Int))×((List ((List Int)×(Int×(Int×Unit))))×Unit))×Unit)
def S0(a0:YC_0)(y0:(YC_4))(v0_0:Int)(v0_1:YC_2)(v0_2:YC_5):St:=⟨mkS 34 [(1,.p [500001] [] 0),(4,.ref [500004]),(5,.ref [500005]),(6,.ref [500006]),(7,.v tI v0_0)],[([500006],.list 38 (.pair (.slc tI) tTm) v0_1),([500005],.list 28 (.slc tI) v0_2),([500004],.list 2 tI (y0.1.1)),([500001],.box (.v tPg ((a0.1),((a0.2.1),((a0.2.2.1),((a0.2.2.2.1),((a0.2.2.2.2.1),((a0.2.2.2.2.2.1),()))))))))]⟩
def step0(call:Cl)(k:Nat)(a0:YC_0)(y0:YC_4)(r0:(Int)→YC_1→(YC_5)→Option R)(v0_0:Int)(v0_1:YC_2)(v0_2:YC_5):Option R:=(call 90 s_spec_l7Count (y0.1.1,())).bind fun(y1:(Int×Unit)×Unit)=>bif decide (v0_0<y1.1.1)then(call 154 s_spec_l7At (y0.1.1,v0_0,())).bind fun(y2:((List Int×Unit)×Unit))=>bif decide ((v0_2.length+[y2.1.1].length)*ti28.bytes≤140737488355328)then(call 167 s_spec_l6Of (a0,y2.1.1,())).bind fun(y3:(((List Int×Int×Int×Unit)×Unit)×Unit))=>bif decide ((v0_1.length+[y3.1.1].length)*ti38.bytes≤140737488355328)then r0 (i64.wrap (v0_0+1)) (v0_1++[y3.1.1]) (v0_2++[y2.1.1])else none else none else some ((v0_2,v0_1,()),())
def L0(call:Cl)(k:Nat)(a0:YC_0)(y0:YC_4):Nat→(Int)→YC_1→(YC_5)→Option R|0,_,_,_=>none|n+1,v0_0,v0_1,v0_2=>step0 call k a0 y0 (L0 call k a0 y0 n) v0_0 v0_1 v0_2
def Fm(call:Cl)(k:Nat)(l0:(YC_0)→(YC_4)→(Int)→YC_1→(YC_5)→Option R)(a0:YC_0):Option R:=(call 91 s_spec_l7Maxes (a0,())).bind fun(y0:((List Int×Unit)×Unit))=>l0 a0 y0 0 [] []
def F(call:Cl)(k:Nat)(a0:YC_0):Option R:=Fm call k (fun a0_ y0_ v0_0_ v0_1_ v0_2_=>L0 call k a0_ y0_ k v0_0_ v0_1_ v0_2_) a0
theorem L0_eq(call:Cl)(k:Nat)(J:Nat→St→Option R)(a0:YC_0)(y0:YC_4):∀(n:Nat)(x:((Int)×YC_1×(YC_5))),siteI E call n_spec_l8Table k s_spec_l8Table (a0,()) J 0 n (S0 a0 y0 x.1 x.2.1 x.2.2)=L0 call k a0 y0 n x.1 x.2.1 x.2.2:=by
  refine loop_eq (s:=s_spec_l8Table) (fun x=>S0 a0 y0 x.1 x.2.1 x.2.2) (fun n x=>L0 call k a0 y0 n x.1 x.2.1 x.2.2) (fun r x=>step0 call k a0 y0 (fun v0_0 v0_1 v0_2=>r (v0_0,v0_1,v0_2)) x.1 x.2.1 x.2.2) (fun _=>rfl) (fun _ _=>rfl) fun J0 x=>?_
  kernel_rfl
theorem F_eq(call:Cl)(k:Nat)(a0:YC_0):bodyK E call n_spec_l8Table k s_spec_l8Table (a0,())=F call k a0:=by
  exact Eq.trans (b:=Fm call k (fun a0 y0 v0_0_ v0_1_ v0_2_=>siteI E call n_spec_l8Table k s_spec_l8Table (a0,()) (fun _ _=>none) 0 k (S0 a0 y0 v0_0_ v0_1_ v0_2_)) a0) (by kernel_rfl) (congrArg (fun l=>Fm call k l a0) (funext fun a0=>funext fun y0=>funext fun v0_0_=>funext fun v0_1_=>funext fun v0_2_=>L0_eq call k (fun _ _=>none) a0 y0 k (v0_0_,v0_1_,v0_2_)))
end spec_l8Table
end Go.Proofs.YtjgfofcgmcnblaaGreat.Pf
namespace Go.Proofs.YtjgfofcgmcnblaaGreat.Pf
open Go Go.Pv
def inA(p:Pg)(m:Nat):List Int:=atF (mx p) (m:Int)
def ins(p:Pg)(n:Nat):List (List Int):=(List.range n).map (inA p)
def ous(p:Pg)(t:Fs)(n:Nat):List Oc:=(List.range n).map fun m=>oc p t (inA p m)
def cN(p:Pg):Nat:=(cntF (mx p)).toNat
theorem ins_succ(p:Pg)(n:Nat):ins p (n+1)=ins p n++[inA p n]:=by
  unfold ins;rw[List.range_succ,List.map_append];rfl
theorem ous_succ(p:Pg)(t:Fs)(n:Nat):ous p t (n+1)=ous p t n++[oc p t (inA p n)]:=by
  unfold ous;rw[List.range_succ,List.map_append];rfl
theorem ins_len(p:Pg)(n:Nat):(ins p n).length=n:=by unfold ins;rw[List.length_map,List.length_range]
theorem ous_len(p:Pg)(t:Fs)(n:Nat):(ous p t n).length=n:=by unfold ous;rw[List.length_map,List.length_range]
section
variable {p:Pg}{t:Fs}(ht:Ok p t)
include ht
theorem inA_wi(m:Nat):Wi p (inA p m):=at_wi ht.hd (Int.natCast_nonneg m)
theorem cN_bd:cN p≤1024∧((cN p:Nat):Int)=cntF (mx p):=by
  have:=cnt_bd ht.hd;unfold cN;omega
theorem mx6:(mx p).length≤6:=by
  have:=ht.hd.b;rw[mx_len];omega
theorem table_ans:Ans n_spec_l8Table s_spec_l8Table (p,()) ((ins p (cN p),ous p t (cN p),()),()):=by
  obtain⟨hc,ec⟩:=cN_bd ht;have hC:=count_ans (mx_few ht.hd) (mx6 ht) (cnt_bd ht.hd).2;refine Gv.ans (Gv.of (fun k=>spec_l8Table.F_eq (cl k) k p) ?_);unfold spec_l8Table.F spec_l8Table.Fm;refine Tq.ba (maxes_ans ht.hd) ?_;have key:∀(d j:Nat),cN p-j=d→j≤cN p→Tq (d+1) (fun k q=>spec_l8Table.L0 (cl k) k p ((mx p,()),()) q (j:Int) (ous p t j) (ins p j)) (· =((ins p (cN p),ous p t (cN p),()),())):=by
    intro d
    induction d with
    | zero=>
      intro j hd hj;obtain rfl:j=cN p:=by omega
      refine Tq.succ ?_;show Tq _ (fun k q=>spec_l8Table.step0 (cl k) k ..) _
      unfold spec_l8Table.step0;exact Tq.ba hC (Tq.bf (decide_eq_false (by dsimp only;omega)) (Tq.ret rfl))
    | succ d ih=>
      intro j hd hj;have l1:=ins_len p j;have l2:=ous_len p t j;refine Tq.succ ?_;show Tq _ (fun k q=>spec_l8Table.step0 (cl k) k ..) _
      unfold spec_l8Table.step0;refine Tq.ba hC (Tq.bt (decide_eq_true (by dsimp only;omega)) (Tq.ba (at_ans (mx_few ht.hd) (mx6 ht) (Int.natCast_nonneg j) (by omega)) (Tq.bt (apb (by rw[by23];simp only[List.length_cons,List.length_nil];omega)) ?_)));refine Tq.ba (l6Of_ans ht (inA_wi ht j)) (Tq.bt (apb (by rw[ti_oc];simp only[List.length_cons,List.length_nil];omega)) ?_);rw[ws (n:=cN p) (by omega) (by omega)];have:=ih (j+1) (by omega) (by omega);rw[ins_succ,ous_succ]at this;exact this
  exact Tq.diag (key _ 0 rfl (Nat.zero_le _))
theorem wi_in:∀m,Within ((inA p m).take p.2.1.length) p.2.1∧Within ((inA p m).drop p.2.1.length) p.2.2.1:=inA_wi ht
theorem inputOf_ans {n:Nat}(hn:n≤1024):Ans n_impl_inputOf s_impl_inputOf (p,(n:Int),()) (((inA p n).take p.2.1.length,(inA p n).drop p.2.1.length,()),()):=by
  have hp:=ht.hd;have hb:=hp.b;have e0:mx p=(p.2.1++p.2.2.1).map (·.1):=by unfold mx;rw[List.map_append]
  have hf:=mx_few hp;have hn6:(p.2.1++p.2.2.1).length≤6:=by rw[List.length_append];omega
  have hge:p.2.1.length≤(p.2.1++p.2.2.1).length:=by rw[List.length_append];omega
  have hA:=allIn_ans hp;refine Gv.ans (Gv.of (fun k=>impl_inputOf.F_eq (cl k) k p n) ?_);unfold impl_inputOf.F impl_inputOf.Fm inA;rw[e0]at hf⊢;generalize p.2.1++p.2.2.1=l at*;refine Tq.ba hA ?_;have key:∀(d j:Nat)(n:Int)(acc:List Int),l.length-j=d→0≤n→n≤1024→acc.length=j→j≤l.length→Tq (d+1) (fun k q=>impl_inputOf.L0 (cl k) k p ((l,()),()) q n (j:Int) acc) (· =(((acc++atF ((l.drop j).map (·.1)) n).take p.2.1.length,(acc++atF ((l.drop j).map (·.1)) n).drop p.2.1.length,()),())):=by
    intro d
    induction d with
    | zero=>
      intro j n acc hd h0 h1 h2 h3;refine Tq.succ ?_;show Tq _ (fun k q=>impl_inputOf.step0 (cl k) k ..) _
      unfold impl_inputOf.step0;have e:l.drop j=[]:=List.drop_of_length_le (by omega);rw[e];simp only[List.map_nil,atF,List.append_nil];refine Tq.bf (dnlt (by omega)) ?_;rw[Int.toNat_natCast];have hc:p.2.1.length≤acc.length:=by omega
      refine Tq.bt (dle0 _) (Tq.bt (by simp only[zs];omega) (Tq.bt (apb (by rw[by2];simp only[List.length_take,List.length_drop];omega)) (Tq.bt (dle0 _) (Tq.bt (by simp only[zs];omega) (Tq.bt (apb (by rw[by2];simp only[List.length_take,List.length_drop];omega)) (Tq.ret ?_))))));rw[List.take_of_length_le (show(acc.drop p.2.1.length).length≤acc.length-p.2.1.length by rw[List.length_drop];exact Nat.le_refl _)];rfl
    | succ d ih=>
      intro j n acc hd h0 h1 h2 h3;have hj:j<l.length:=by omega
      have hx:=hf _ (List.mem_map.2 ⟨_,List.getElem_mem hj,rfl⟩);have q0:=Int.tdiv_nonneg h0 (show 0≤l[j].1+1 by omega);have q1:=Int.tdiv_le_self (l[j].1+1) h0;refine Tq.succ ?_;show Tq _ (fun k q=>impl_inputOf.step0 (cl k) k ..) _
      unfold impl_inputOf.step0;refine Tq.bt (dlt hj) (Tq.bt (idx_ok hj) (Tq.some (lg hj) ?_));rw[w64 (x:=l[j].1+1) (by omega) (by omega)];refine Tq.bf (decide_eq_false (by omega)) (Tq.bt (apb (by rw[by2];simp only[List.length_cons,List.length_nil];omega)) (Tq.bf (decide_eq_false (by omega)) ?_));rw[ws hj (by omega),w64 (by omega) (by omega),List.drop_eq_getElem_cons hj];have:=ih (j+1) _ (acc++[n.tmod (l[j].1+1)]) (by omega) q0 (by omega) (by simp;omega) (by omega);rw[List.append_assoc acc,List.singleton_append]at this;exact this
  exact Tq.diag (key _ 0 n [] rfl (by omega) (by omega) rfl (Nat.zero_le _))
theorem runIn_gv(n:Nat):Gv n_impl_ran s_impl_ran (p,(inA p n).take p.2.1.length,(inA p n).drop p.2.1.length,()) (fun(r:(Oc×(ET×Unit))×Unit)=>r.1.1=oc p t (inA p n)):=by
  have h:=wi_in ht n;have:=ran_ans ht h.1 h.2;rw[List.take_append_drop]at this;exact this
theorem bd0:Bd [] 0:=⟨Nat.le_refl _,fun _ h=>by cases h⟩
end
end Go.Proofs.YtjgfofcgmcnblaaGreat.Pf
namespace Go.Proofs.YtjgfofcgmcnblaaGreat.Pf
open Go Go.Pv IntKind
abbrev YD_0:Type:=(Int×((List (Int×(Int×Unit)))×((List (Int×(Int×Unit)))×(Int×((List Int)×((List (Int×(Int×((List (Int×(Int×Unit)))×((List (Int×(Int×Unit)))×Unit)))))×Unit))))))
abbrev YD_1:Type:=((List Bool)×((List Int)×((List Int)×Unit)))
abbrev YD_2:Type:=((List ((List Int)×(Int×(Int×Unit)))))
abbrev YD_3:Type:=(List ((List Int)×(Int×(Int×Unit))))
abbrev YD_4:Type:=((Option (List (ByteArray×Int))))
abbrev YD_5:Type:=(List (List Int))
namespace impl_sameLists
abbrev R:=((Bool×Unit)×Unit)
def S0(a0:(List Int))(a1:(List Int))(v0_3:Int):St:=⟨mkS 26 [(1,.v (.slc tI) (a1)),(12,.v (.slc tI) (a0)),(13,.v tI ((↑a0.length:Int))),(14,.v tI v0_3)],[]⟩
def step0(call:Cl)(k:Nat)(a0:(List Int))(a1:(List Int))(r0:(Int)→Option R)(v0_3:Int):Option R:=bif decide (v0_3<(↑a0.length:Int))then bif decide (0≤v0_3)then(lget a0 v0_3.toNat).bind fun(y0:Int)=>bif decide (0≤v0_3)then(lget a1 v0_3.toNat).bind fun(y1:Int)=>bif y0 !=y1 then some ((false,()),())else r0 (i64.wrap (v0_3+1))else none else none else some ((true,()),())
def L0(call:Cl)(k:Nat)(a0:(List Int))(a1:(List Int)):Nat→(Int)→Option R|0,_=>none|n+1,v0_3=>step0 call k a0 a1 (L0 call k a0 a1 n) v0_3
def Fm(call:Cl)(k:Nat)(l0:((List Int))→((List Int))→(Int)→Option R)(a0:(List Int))(a1:(List Int)):Option R:=bif(↑a0.length:Int)!=(↑a1.length:Int)then some ((false,()),())else l0 a0 a1 0
def F(call:Cl)(k:Nat)(a0:(List Int))(a1:(List Int)):Option R:=Fm call k (fun a0_ a1_ v0_3_=>L0 call k a0_ a1_ k v0_3_) a0 a1
theorem L0_eq(call:Cl)(k:Nat)(J:Nat→St→Option R)(a0:(List Int))(a1:(List Int)):∀(n:Nat)(x:(Int)),siteI E call n_impl_sameLists k s_impl_sameLists (a0,a1,()) J 0 n (S0 a0 a1 x)=L0 call k a0 a1 n x:=by
  refine loop_eq (s:=s_impl_sameLists) (fun x=>S0 a0 a1 x) (fun n x=>L0 call k a0 a1 n x) (fun r x=>step0 call k a0 a1 (fun v0_3=>r v0_3) x) (fun _=>rfl) (fun _ _=>rfl) fun J0 x=>?_
  kernel_rfl
theorem F_eq(call:Cl)(k:Nat)(a0:(List Int))(a1:(List Int)):bodyK E call n_impl_sameLists k s_impl_sameLists (a0,a1,())=F call k a0 a1:=by
  exact Eq.trans (b:=Fm call k (fun a0 a1 v0_3_=>siteI E call n_impl_sameLists k s_impl_sameLists (a0,a1,()) (fun _ _=>none) 0 k (S0 a0 a1 v0_3_)) a0 a1) (by kernel_rfl) (congrArg (fun l=>Fm call k l a0 a1) (funext fun a0=>funext fun a1=>funext fun v0_3_=>L0_eq call k (fun _ _=>none) a0 a1 k v0_3_))
end impl_sameLists
namespace impl_tallyFor_1
abbrev R:=((Bool×Unit)×Unit)
def S0(a0:(List Int))(a1:(List Int))(a2:(List Bool))(a3:(List Int))(a4:(List Int))(v0_6:Int):St:=⟨mkS 34 [(0,.v (.slc tI) (a0)),(2,.v (.sptr (.slc .bool)) (a2)),(3,.v (.sptr (.slc tI)) (a3)),(4,.v (.sptr (.slc tI)) (a4)),(10,.v (.slc tI) (a1)),(11,.v tI ((↑a1.length:Int))),(12,.v tI v0_6)],[]⟩
def step0(call:Cl)(k:Nat)(a0:(List Int))(a1:(List Int))(a2:(List Bool))(a3:(List Int))(a4:(List Int))(r0:(Int)→Option R)(v0_6:Int):Option R:=bif decide (v0_6<(↑a1.length:Int))then bif decide (0≤v0_6)then(lget a1 v0_6.toNat).bind fun(y0:Int)=>bif decide (0≤v0_6)then(lget a2 v0_6.toNat).bind fun(y1:Bool)=>bif !y1 then bif decide (0≤v0_6)then(lget a3 v0_6.toNat).bind fun(y2:Int)=>bif y0 !=y2 then some ((false,()),())else r0 (i64.wrap (v0_6+1))else none else r0 (i64.wrap (v0_6+1))else none else none else(call 166 s_impl_sameLists (a0,a4,())).bind fun(y3:(Bool×Unit)×Unit)=>some ((y3.1.1,()),())
def L0(call:Cl)(k:Nat)(a0:(List Int))(a1:(List Int))(a2:(List Bool))(a3:(List Int))(a4:(List Int)):Nat→(Int)→Option R|0,_=>none|n+1,v0_6=>step0 call k a0 a1 a2 a3 a4 (L0 call k a0 a1 a2 a3 a4 n) v0_6
def Fm(call:Cl)(k:Nat)(l0:((List Int))→((List Int))→((List Bool))→((List Int))→((List Int))→(Int)→Option R)(a0:(List Int))(a1:(List Int))(a2:(List Bool))(a3:(List Int))(a4:(List Int)):Option R:=l0 a0 a1 a2 a3 a4 0
def F(call:Cl)(k:Nat)(a0:(List Int))(a1:(List Int))(a2:(List Bool))(a3:(List Int))(a4:(List Int)):Option R:=Fm call k (fun a0_ a1_ a2_ a3_ a4_ v0_6_=>L0 call k a0_ a1_ a2_ a3_ a4_ k v0_6_) a0 a1 a2 a3 a4
theorem L0_eq(call:Cl)(k:Nat)(J:Nat→St→Option R)(a0:(List Int))(a1:(List Int))(a2:(List Bool))(a3:(List Int))(a4:(List Int)):∀(n:Nat)(x:(Int)),siteI E call n_impl_tallyFor_1 k s_impl_tallyFor_1 (a0,a1,a2,a3,a4,()) J 0 n (S0 a0 a1 a2 a3 a4 x)=L0 call k a0 a1 a2 a3 a4 n x:=by
  refine loop_eq (s:=s_impl_tallyFor_1) (fun x=>S0 a0 a1 a2 a3 a4 x) (fun n x=>L0 call k a0 a1 a2 a3 a4 n x) (fun r x=>step0 call k a0 a1 a2 a3 a4 (fun v0_6=>r v0_6) x) (fun _=>rfl) (fun _ _=>rfl) fun J0 x=>?_
  kernel_rfl
theorem F_eq(call:Cl)(k:Nat)(a0:(List Int))(a1:(List Int))(a2:(List Bool))(a3:(List Int))(a4:(List Int)):bodyK E call n_impl_tallyFor_1 k s_impl_tallyFor_1 (a0,a1,a2,a3,a4,())=F call k a0 a1 a2 a3 a4:=by
  exact Eq.trans (b:=Fm call k (fun a0 a1 a2 a3 a4 v0_6_=>siteI E call n_impl_tallyFor_1 k s_impl_tallyFor_1 (a0,a1,a2,a3,a4,()) (fun _ _=>none) 0 k (S0 a0 a1 a2 a3 a4 v0_6_)) a0 a1 a2 a3 a4) (by kernel_rfl) (congrArg (fun l=>Fm call k l a0 a1 a2 a3 a4) (funext fun a0=>funext fun a1=>funext fun a2=>funext fun a3=>funext fun a4=>funext fun v0_6_=>L0_eq call k (fun _ _=>none) a0 a1 a2 a3 a4 k v0_6_))
end impl_tallyFor_1
namespace impl_tallyOf__impl_tallyFor_1
abbrev R:=((((Option (List (ByteArray×Int)))×((List ((List Int)×(Int×(Int×Unit))))×((List Int)×Unit)))×Unit)×Unit)
def S0(a0:YD_0)(a1:YD_1)(v0_4:Int)(v0_5:(List Int))(v0_6:YD_3)(v0_7:(Option (List (ByteArray×Int)))):St:=⟨mkS 37 [(0,.v (.sptr tPg) (a0)),(1,.v (.clo 165 (.pair (.sptr (.slc .bool)) (.pair (.sptr (.slc tI)) (.pair (.sptr (.slc tI)) .unit)))) ((a1.1),((a1.2.1),((a1.2.2.1),())))),(4,.p [500004] [] 0),(5,.p [500005] [] 0),(6,.v tI v0_4)],[([500005,5,1,1,0],.list 2 tI v0_5),([500005,5,1,0],.list 38 (.pair (.own 2 tI) tTm) v0_6),([500005,5,0],.map 141 .str tI v0_7),([500005],.box (.pr (.ref [500005,5,0]) (.pr (.ref [500005,5,1,0]) (.pr (.ref [500005,5,1,1,0]) (.v .unit ()))))),([500004,5,1,1,0],.list 2 tI ([])),([500004,5,1,0],.list 38 (.pair (.own 2 tI) tTm) ([])),([500004,5,0],.map 141 .str tI (none)),([500004],.box (.pr (.ref [500004,5,0]) (.pr (.ref [500004,5,1,0]) (.pr (.ref [500004,5,1,1,0]) (.v .unit ())))))]⟩
def step0(call:Cl)(k:Nat)(a0:YD_0)(a1:YD_1)(r0:(Int)→((List Int))→YD_2→YD_4→Option R)(v0_4:Int)(v0_5:(List Int))(v0_6:YD_3)(v0_7:(Option (List (ByteArray×Int)))):Option R:=(call 160 s_impl_manyInputs (a0,())).bind fun(y0:(Int×Unit)×Unit)=>bif decide (v0_4<y0.1.1)then(call 161 s_impl_inputOf (a0,v0_4,())).bind fun(y1:((List Int×List Int×Unit)×Unit))=>(call 165 s_impl_tallyFor_1 (y1.1.1,y1.1.2.1,a1.1,a1.2.1,a1.2.2.1,())).bind fun(y2:(Bool×Unit)×Unit)=>bif y2.1.1 then(call 162 s_impl_ran (a0,y1.1.1,y1.1.2.1,())).bind fun(y3:(((List Int×Int×Int×Unit)×(List Int×List (List Int)×Unit)×Unit)×Unit))=>(call 175 s_impl_tally_add ((v0_7,v0_6,v0_5,()),y3.1.1,())).bind fun(y4:Unit×(Option (List (ByteArray×Int))×List (List Int×Int×Int×Unit)×List Int×Unit)×Unit)=>r0 (i64.wrap (v0_4+1)) y4.2.1.2.2.1 y4.2.1.2.1 y4.2.1.1 else r0 (i64.wrap (v0_4+1)) v0_5 v0_6 v0_7 else some (((v0_7,v0_6,v0_5,()),()),())
def L0(call:Cl)(k:Nat)(a0:YD_0)(a1:YD_1):Nat→(Int)→((List Int))→YD_2→YD_4→Option R|0,_,_,_,_=>none|n+1,v0_4,v0_5,v0_6,v0_7=>step0 call k a0 a1 (L0 call k a0 a1 n) v0_4 v0_5 v0_6 v0_7
def Fm(call:Cl)(k:Nat)(l0:(YD_0)→(YD_1)→(Int)→((List Int))→YD_2→YD_4→Option R)(a0:YD_0)(a1:YD_1):Option R:=l0 a0 a1 0 [] [] none
def F(call:Cl)(k:Nat)(a0:YD_0)(a1:YD_1):Option R:=Fm call k (fun a0_ a1_ v0_4_ v0_5_ v0_6_ v0_7_=>L0 call k a0_ a1_ k v0_4_ v0_5_ v0_6_ v0_7_) a0 a1
theorem L0_eq(call:Cl)(k:Nat)(J:Nat→St→Option R)(a0:YD_0)(a1:YD_1):∀(n:Nat)(x:((Int)×((List Int))×YD_2×YD_4)),siteI E call n_impl_tallyOf__impl_tallyFor_1 k s_impl_tallyOf__impl_tallyFor_1 (a0,a1,()) J 0 n (S0 a0 a1 x.1 x.2.1 x.2.2.1 x.2.2.2)=L0 call k a0 a1 n x.1 x.2.1 x.2.2.1 x.2.2.2:=by
  refine loop_eq (s:=s_impl_tallyOf__impl_tallyFor_1) (fun x=>S0 a0 a1 x.1 x.2.1 x.2.2.1 x.2.2.2) (fun n x=>L0 call k a0 a1 n x.1 x.2.1 x.2.2.1 x.2.2.2) (fun r x=>step0 call k a0 a1 (fun v0_4 v0_5 v0_6 v0_7=>r (v0_4,v0_5,v0_6,v0_7)) x.1 x.2.1 x.2.2.1 x.2.2.2) (fun _=>rfl) (fun _ _=>rfl) fun J0 x=>?_
  kernel_rfl
theorem F_eq(call:Cl)(k:Nat)(a0:YD_0)(a1:YD_1):bodyK E call n_impl_tallyOf__impl_tallyFor_1 k s_impl_tallyOf__impl_tallyFor_1 (a0,a1,())=F call k a0 a1:=by
  exact Eq.trans (b:=Fm call k (fun a0 a1 v0_4_ v0_5_ v0_6_ v0_7_=>siteI E call n_impl_tallyOf__impl_tallyFor_1 k s_impl_tallyOf__impl_tallyFor_1 (a0,a1,()) (fun _ _=>none) 0 k (S0 a0 a1 v0_4_ v0_5_ v0_6_ v0_7_)) a0 a1) (by kernel_rfl) (congrArg (fun l=>Fm call k l a0 a1) (funext fun a0=>funext fun a1=>funext fun v0_4_=>funext fun v0_5_=>funext fun v0_6_=>funext fun v0_7_=>L0_eq call k (fun _ _=>none) a0 a1 k (v0_4_,v0_5_,v0_6_,v0_7_)))
end impl_tallyOf__impl_tallyFor_1
namespace impl_tallyFor
abbrev R:=((((Option (List (ByteArray×Int)))×((List ((List Int)×(Int×(Int×Unit))))×((List Int)×Unit)))×(Bool×Unit))×Unit)
def Fm(call:Cl)(k:Nat)(a0:YD_0)(a1:(List Int))(a2:(List Int))(a3:(List Bool)):Option R:=(call 164 s_impl_StartOf (a0,a1,a2,())).bind fun(y0:(((List Int×List (List Int)×Unit)×Bool×Unit)×Unit))=>bif !y0.1.2.1 then some (((none,[],[],()),false,()),())else bif(↑a3.length:Int)!=(↑a2.length:Int)then some (((none,[],[],()),false,()),())else(call 16600133 s_impl_tallyOf__impl_tallyFor_1 (a0,(a3,a2,a1,()),())).bind fun(y1:((Option (List (ByteArray×Int))×List (List Int×Int×Int×Unit)×List Int×Unit)×Unit)×Unit)=>some ((y1.1.1,true,()),())
def F(call:Cl)(k:Nat)(a0:YD_0)(a1:(List Int))(a2:(List Int))(a3:(List Bool)):Option R:=Fm call k a0 a1 a2 a3
theorem F_eq(call:Cl)(k:Nat)(a0:YD_0)(a1:(List Int))(a2:(List Int))(a3:(List Bool)):bodyK E call n_impl_tallyFor k s_impl_tallyFor (a0,a1,a2,a3,())=F call k a0 a1 a2 a3:=by kernel_rfl
end impl_tallyFor
namespace spec_l8Fits
abbrev R:=((Bool×Unit)×Unit)
def S0(a0:(List Int))(a1:(List Int))(a2:Int)(a3:(List Bool))(v0_4:Int):St:=⟨mkS 39 [(0,.v (.slc tI) (a0)),(1,.v (.slc tI) (a1)),(2,.v tI (a2)),(3,.v (.slc .bool) (a3)),(9,.v tI v0_4)],[]⟩
def step0(call:Cl)(k:Nat)(a0:(List Int))(a1:(List Int))(a2:Int)(a3:(List Bool))(r0:(Int)→Option R)(v0_4:Int):Option R:=bif decide (v0_4<(↑a0.length:Int))then bif decide (0≤v0_4)then(lget a0 v0_4.toNat).bind fun(y0:Int)=>bif decide (0≤v0_4)then(lget a1 v0_4.toNat).bind fun(y1:Int)=>bif y0 !=y1 then bif decide (v0_4<a2)then some ((false,()),())else bif decide (0≤i64.wrap (v0_4-a2))then(lget a3 (i64.wrap (v0_4-a2)).toNat).bind fun(y2:Bool)=>bif !y2 then some ((false,()),())else r0 (i64.wrap (v0_4+1))else none else r0 (i64.wrap (v0_4+1))else none else none else some ((true,()),())
def L0(call:Cl)(k:Nat)(a0:(List Int))(a1:(List Int))(a2:Int)(a3:(List Bool)):Nat→(Int)→Option R|0,_=>none|n+1,v0_4=>step0 call k a0 a1 a2 a3 (L0 call k a0 a1 a2 a3 n) v0_4
def Fm(call:Cl)(k:Nat)(l0:((List Int))→((List Int))→(Int)→((List Bool))→(Int)→Option R)(a0:(List Int))(a1:(List Int))(a2:Int)(a3:(List Bool)):Option R:=l0 a0 a1 a2 a3 0
def F(call:Cl)(k:Nat)(a0:(List Int))(a1:(List Int))(a2:Int)(a3:(List Bool)):Option R:=Fm call k (fun a0_ a1_ a2_ a3_ v0_4_=>L0 call k a0_ a1_ a2_ a3_ k v0_4_) a0 a1 a2 a3
theorem L0_eq(call:Cl)(k:Nat)(J:Nat→St→Option R)(a0:(List Int))(a1:(List Int))(a2:Int)(a3:(List Bool)):∀(n:Nat)(x:(Int)),siteI E call n_spec_l8Fits k s_spec_l8Fits (a0,a1,a2,a3,()) J 0 n (S0 a0 a1 a2 a3 x)=L0 call k a0 a1 a2 a3 n x:=by
  refine loop_eq (s:=s_spec_l8Fits) (fun x=>S0 a0 a1 a2 a3 x) (fun n x=>L0 call k a0 a1 a2 a3 n x) (fun r x=>step0 call k a0 a1 a2 a3 (fun v0_4=>r v0_4) x) (fun _=>rfl) (fun _ _=>rfl) fun J0 x=>?_
  kernel_rfl
theorem F_eq(call:Cl)(k:Nat)(a0:(List Int))(a1:(List Int))(a2:Int)(a3:(List Bool)):bodyK E call n_spec_l8Fits k s_spec_l8Fits (a0,a1,a2,a3,())=F call k a0 a1 a2 a3:=by
  exact Eq.trans (b:=Fm call k (fun a0 a1 a2 a3 v0_4_=>siteI E call n_spec_l8Fits k s_spec_l8Fits (a0,a1,a2,a3,()) (fun _ _=>none) 0 k (S0 a0 a1 a2 a3 v0_4_)) a0 a1 a2 a3) (by kernel_rfl) (congrArg (fun l=>Fm call k l a0 a1 a2 a3) (funext fun a0=>funext fun a1=>funext fun a2=>funext fun a3=>funext fun v0_4_=>L0_eq call k (fun _ _=>none) a0 a1 a2 a3 k v0_4_))
end spec_l8Fits
namespace spec_l8All
abbrev R:=(((List ((List Int)×(Int×(Int×Unit))))×Unit)×Unit)
def S0(a0:YD_0)(a1:YD_5)(a2:YD_3)(a3:(List Int))(a4:(List Bool))(v0_4:Int)(v0_5:YD_3):St:=⟨mkS 38 [(1,.v (.slc (.slc tI)) (a1)),(2,.v (.slc (.pair (.slc tI) tTm)) (a2)),(3,.v (.slc tI) (a3)),(4,.v (.slc .bool) (a4)),(5,.p [500005] [] 0),(11,.ref [500011]),(12,.v tI v0_4)],[([500011],.list 38 (.pair (.slc tI) tTm) v0_5),([500005],.box (.v tPg ((a0.1),((a0.2.1),((a0.2.2.1),((a0.2.2.2.1),((a0.2.2.2.2.1),((a0.2.2.2.2.2.1),()))))))))]⟩
def step0(call:Cl)(k:Nat)(a0:YD_0)(a1:YD_5)(a2:YD_3)(a3:(List Int))(a4:(List Bool))(r0:(Int)→YD_2→Option R)(v0_4:Int)(v0_5:YD_3):Option R:=bif decide (v0_4<(↑a1.length:Int))then bif decide (0≤v0_4)then(lget a1 v0_4.toNat).bind fun(y0:List Int)=>(call 170 s_spec_l8Fits (y0,a3,(↑a0.2.1.length:Int),a4,())).bind fun(y1:(Bool×Unit)×Unit)=>bif y1.1.1 then bif decide (0≤v0_4)then(lget a2 v0_4.toNat).bind fun(y2:(List Int×Int×Int×Unit))=>bif decide ((v0_5.length+[y2].length)*ti38.bytes≤140737488355328)then r0 (i64.wrap (v0_4+1)) (v0_5++[y2])else none else none else r0 (i64.wrap (v0_4+1)) v0_5 else none else some ((v0_5,()),())
def L0(call:Cl)(k:Nat)(a0:YD_0)(a1:YD_5)(a2:YD_3)(a3:(List Int))(a4:(List Bool)):Nat→(Int)→YD_2→Option R|0,_,_=>none|n+1,v0_4,v0_5=>step0 call k a0 a1 a2 a3 a4 (L0 call k a0 a1 a2 a3 a4 n) v0_4 v0_5
def Fm(call:Cl)(k:Nat)(l0:(YD_0)→(YD_5)→YD_2→((List Int))→((List Bool))→(Int)→YD_2→Option R)(a0:YD_0)(a1:YD_5)(a2:YD_3)(a3:(List Int))(a4:(List Bool)):Option R:=l0 a0 a1 a2 a3 a4 0 []
def F(call:Cl)(k:Nat)(a0:YD_0)(a1:YD_5)(a2:YD_3)(a3:(List Int))(a4:(List Bool)):Option R:=Fm call k (fun a0_ a1_ a2_ a3_ a4_ v0_4_ v0_5_=>L0 call k a0_ a1_ a2_ a3_ a4_ k v0_4_ v0_5_) a0 a1 a2 a3 a4
theorem L0_eq(call:Cl)(k:Nat)(J:Nat→St→Option R)(a0:YD_0)(a1:YD_5)(a2:YD_3)(a3:(List Int))(a4:(List Bool)):∀(n:Nat)(x:((Int)×YD_2)),siteI E call n_spec_l8All k s_spec_l8All (a0,a1,a2,a3,a4,()) J 0 n (S0 a0 a1 a2 a3 a4 x.1 x.2)=L0 call k a0 a1 a2 a3 a4 n x.1 x.2:=by
  refine loop_eq (s:=s_spec_l8All) (fun x=>S0 a0 a1 a2 a3 a4 x.1 x.2) (fun n x=>L0 call k a0 a1 a2 a3 a4 n x.1 x.2) (fun r x=>step0 call k a0 a1 a2 a3 a4 (fun v0_4 v0_5=>r (v0_4,v0_5)) x.1 x.2) (fun _=>rfl) (fun _ _=>rfl) fun J0 x=>?_
  kernel_rfl
theorem F_eq(call:Cl)(k:Nat)(a0:YD_0)(a1:YD_5)(a2:YD_3)(a3:(List Int))(a4:(List Bool)):bodyK E call n_spec_l8All k s_spec_l8All (a0,a1,a2,a3,a4,())=F call k a0 a1 a2 a3 a4:=by
  exact Eq.trans (b:=Fm call k (fun a0 a1 a2 a3 a4 v0_4_ v0_5_=>siteI E call n_spec_l8All k s_spec_l8All (a0,a1,a2,a3,a4,()) (fun _ _=>none) 0 k (S0 a0 a1 a2 a3 a4 v0_4_ v0_5_)) a0 a1 a2 a3 a4) (by kernel_rfl) (congrArg (fun l=>Fm call k l a0 a1 a2 a3 a4) (funext fun a0=>funext fun a1=>funext fun a2=>funext fun a3=>funext fun a4=>funext fun v0_4_=>funext fun v0_5_=>L0_eq call k (fun _ _=>none) a0 a1 a2 a3 a4 k (v0_4_,v0_5_)))
end spec_l8All
namespace spec_l8Right
abbrev R:=((Bool×Unit)×Unit)
def Fm(call:Cl)(k:Nat)(a0:YD_0)(a1:(List Int))(a2:(List Int))(a3:(List Bool)):Option R:=(call 93 s_spec_StartOf (a0,a1,a2,())).bind fun(y0:(((List Int×List (List Int)×Unit)×Bool×Unit)×Unit))=>bif y0.1.2.1 then some (((↑a3.length:Int)==(↑(List.length a0.2.2.1):Int),()),())else some ((false,()),())
def F(call:Cl)(k:Nat)(a0:YD_0)(a1:(List Int))(a2:(List Int))(a3:(List Bool)):Option R:=Fm call k a0 a1 a2 a3
theorem F_eq(call:Cl)(k:Nat)(a0:YD_0)(a1:(List Int))(a2:(List Int))(a3:(List Bool)):bodyK E call n_spec_l8Right k s_spec_l8Right (a0,a1,a2,a3,())=F call k a0 a1 a2 a3:=by kernel_rfl
end spec_l8Right
namespace spec_OutcomesOf
abbrev R:=(((List ((List Int)×(Int×(Int×Unit))))×Unit)×Unit)
def Fm(call:Cl)(k:Nat)(a0:YD_0)(a1:(List Int))(a2:(List Int))(a3:(List Bool)):Option R:=(call 109 s_spec_l8Right (a0,a1,a2,a3,())).bind fun(y0:(Bool×Unit)×Unit)=>bif !y0.1.1 then some (([],()),())else(call 106 s_spec_l8Table (a0,())).bind fun(y1:((List (List Int)×List (List Int×Int×Int×Unit)×Unit)×Unit))=>bif decide ((0+a1.length)*ti2.bytes≤140737488355328)then bif decide ((([]++a1).length+a2.length)*ti2.bytes≤140737488355328)then(call 111 s_spec_l8All (a0,y1.1.1,y1.1.2.1,[]++a1++a2,a3,())).bind fun(y2:((List (List Int×Int×Int×Unit)×Unit)×Unit))=>(call 110 s_spec_l8Different (y2.1.1,())).bind fun(y3:((List (List Int×Int×Int×Unit)×Unit)×Unit))=>some ((y3.1.1,()),())else none else none
def F(call:Cl)(k:Nat)(a0:YD_0)(a1:(List Int))(a2:(List Int))(a3:(List Bool)):Option R:=Fm call k a0 a1 a2 a3
theorem F_eq(call:Cl)(k:Nat)(a0:YD_0)(a1:(List Int))(a2:(List Int))(a3:(List Bool)):bodyK E call n_spec_OutcomesOf k s_spec_OutcomesOf (a0,a1,a2,a3,())=F call k a0 a1 a2 a3:=by kernel_rfl
end spec_OutcomesOf
end Go.Proofs.YtjgfofcgmcnblaaGreat.Pf
namespace Go.Proofs.YtjgfofcgmcnblaaGreat.Pf
open Go Go.Pv
theorem Tq.fuel {α:Type}{d:Nat}{P:α→Prop}{F G:Nat→Nat→Nat→Option α}(e:∀k q n,F k q (n+1)=G k q n){m:Nat→Nat}{N:Nat}(hm:∀k,N≤k→1≤m k)(h:Tq d (fun k q=>G k q (m k-1)) P):Tq d (fun k q=>F k q (m k)) P:=
  Tq.evEq ⟨N,fun k hk q _=>by
    have:=hm k hk;obtain⟨x,hx⟩:∃x,m k=x+1:=⟨m k-1,by omega⟩
    rw[hx];exact e k q x⟩ h
def FT(a b:List Int)(n:Nat)(free:List Bool)(j:Nat):Prop:=∀i,j≤i→∀(h1:i<a.length)(h2:i<b.length),a[i]=b[i]∨(n≤i∧∃h3:i-n<free.length,free[i-n]=true)
theorem FT_end {a b:List Int}{n:Nat}{free:List Bool}{j:Nat}(h:a.length≤j):FT a b n free j:=fun i h0 h1 _=>by omega
theorem FT_next {a b:List Int}{n:Nat}{free:List Bool}{j:Nat}(h:∀(h1:j<a.length)(h2:j<b.length),a[j]=b[j]∨(n≤j∧∃h3:j-n<free.length,free[j-n]=true)):FT a b n free j↔FT a b n free (j+1):=by
  constructor
  . exact fun e i hi=>e i (by omega)
  . intro e i hi;rcases Nat.lt_or_ge j i with h1|h1
    . exact e i h1
    . obtain rfl:i=j:=by omega
      exact h
theorem l8Fits_ans {a b:List Int}{n:Nat}{free:List Bool}(h1:a.length=b.length)(h2:n+free.length=a.length)(h3:a.length≤6):Ans n_spec_l8Fits s_spec_l8Fits (a,b,(n:Int),free,()) ((bo (FT a b n free 0),()),()):=by
  refine Gv.ans (Gv.of (fun k=>spec_l8Fits.F_eq (cl k) k a b n free) ?_);unfold spec_l8Fits.F spec_l8Fits.Fm;have key:∀(d j:Nat),a.length-j=d→Tq (d+1) (fun k q=>spec_l8Fits.L0 (cl k) k a b n free q (j:Int)) (· =((bo (FT a b n free j),()),())):=by
    intro d
    induction d with
    | zero=>
      intro j hd;refine Tq.succ ?_;show Tq _ (fun k q=>spec_l8Fits.step0 (cl k) k ..) _
      unfold spec_l8Fits.step0;rw[bo_t (FT_end (by omega))];exact Tq.bf (dnlt (by omega)) (Tq.ret rfl)
    | succ d ih=>
      intro j hd;have hj:j<a.length:=by omega
      have hj':j<b.length:=by omega
      refine Tq.succ ?_;show Tq _ (fun k q=>spec_l8Fits.step0 (cl k) k ..) _
      unfold spec_l8Fits.step0;refine Tq.bt (dlt hj) (Tq.bt (dle0 _) (Tq.some (lg hj) (Tq.bt (dle0 _) (Tq.some (lg hj') ?_))));by_cases c:a[j]=b[j]
      . rw[bo_congr (FT_next fun _ _=>.inl c),ws hj (by omega)];exact Tq.bf (bne_eq_false_iff_eq.2 c) (ih (j+1) (by omega))
      . refine Tq.bt (bne_iff_ne.2 c) ?_;by_cases c2:j<n
        . rw[bo_f (fun e=>(e j (Nat.le_refl _) hj hj').elim c fun h=>by omega)];exact Tq.bt (decide_eq_true (by omega)) (Tq.ret rfl)
        . have e:IntKind.i64.wrap ((j:Int)-(n:Int))=((j-n:Nat):Int):=by rw[w64 (by omega) (by omega)];omega
          have hf:j-n<free.length:=by omega
          rw[e];refine Tq.bf (decide_eq_false (by omega)) (Tq.bt (dle0 _) (Tq.some (lg hf) ?_));cases c3:free[j-n]
          . rw[bo_f (fun e=>(e j (Nat.le_refl _) hj hj').elim c fun⟨_,_,h⟩=>by rw[c3]at h;cases h)];exact Tq.bt rfl (Tq.ret rfl)
          . rw[bo_congr (FT_next fun _ _=>.inr ⟨by omega,hf,c3⟩),ws hj (by omega)];exact Tq.bf rfl (ih (j+1) (by omega))
  exact Tq.diag (key _ 0 rfl)
theorem same_ans(a b:List Int)(ha:a.length≤1048576):Ans n_impl_sameLists s_impl_sameLists (a,b,()) ((bo (a=b),()),()):=by
  refine Gv.ans (Gv.of (fun k=>impl_sameLists.F_eq (cl k) k a b) ?_);unfold impl_sameLists.F impl_sameLists.Fm;by_cases c1:a.length=b.length
  case neg=>rw[bo_f (fun e=>c1 (congrArg _ e))];exact Tq.bt (bne_iff_ne.2 (by omega)) (Tq.ret rfl)
  refine Tq.bf (bne_eq_false_iff_eq.2 (by omega)) ?_;have key:∀(d j:Nat),a.length-j=d→Tq (d+1) (fun k q=>impl_sameLists.L0 (cl k) k a b q (j:Int)) (· =((bo (a.drop j=b.drop j),()),())):=by
    intro d
    induction d with
    | zero=>
      intro j hd;refine Tq.succ ?_;show Tq _ (fun k q=>impl_sameLists.step0 (cl k) k ..) _
      unfold impl_sameLists.step0;rw[bo_t (by rw[List.drop_of_length_le (by omega),List.drop_of_length_le (by omega)])];exact Tq.bf (dnlt (by omega)) (Tq.ret rfl)
    | succ d ih=>
      intro j hd;have hj:j<a.length:=by omega
      have hj':j<b.length:=by omega
      refine Tq.succ ?_;show Tq _ (fun k q=>impl_sameLists.step0 (cl k) k ..) _
      unfold impl_sameLists.step0;refine Tq.bt (dlt hj) (Tq.bt (dle0 _) (Tq.some (lg hj) (Tq.bt (dle0 _) (Tq.some (lg hj') ?_))));rw[bo_congr (drop_eq hj hj')];by_cases c4:a[j]=b[j]
      . refine Tq.bf (bne_eq_false_iff_eq.2 c4) ?_;rw[bo_congr (and_iff_right c4),ws hj (by omega)];exact ih (j+1) (by omega)
      . rw[bo_f (fun e=>c4 e.1)];exact Tq.bt (bne_iff_ne.2 c4) (Tq.ret rfl)
  exact Tq.diag (key _ 0 rfl)
theorem wanted_ans {o h s l:List Int}{free:List Bool}(h1:h.length=s.length)(h2:free.length=h.length)(h3:h.length≤6)(h4:o.length≤6):Ans n_impl_tallyFor_1 s_impl_tallyFor_1 (o,h,free,s,l,()) ((bo (FT h s 0 free 0∧o=l),()),()):=by
  have hS:=same_ans o l (by omega);refine Gv.ans (Gv.of (fun k=>impl_tallyFor_1.F_eq (cl k) k o h free s l) ?_);unfold impl_tallyFor_1.F impl_tallyFor_1.Fm;have key:∀(d j:Nat),h.length-j=d→Tq (d+1) (fun k q=>impl_tallyFor_1.L0 (cl k) k o h free s l q (j:Int)) (· =((bo (FT h s 0 free j∧o=l),()),())):=by
    intro d
    induction d with
    | zero=>
      intro j hd;refine Tq.succ ?_;show Tq _ (fun k q=>impl_tallyFor_1.step0 (cl k) k ..) _
      unfold impl_tallyFor_1.step0;rw[bo_congr (and_iff_right (FT_end (by omega)))];exact Tq.bf (dnlt (by omega)) (Tq.ba hS (Tq.ret rfl))
    | succ d ih=>
      intro j hd;have hj:j<h.length:=by omega
      have hj':j<s.length:=by omega
      have hf:j<free.length:=by omega
      refine Tq.succ ?_;show Tq _ (fun k q=>impl_tallyFor_1.step0 (cl k) k ..) _
      unfold impl_tallyFor_1.step0;refine Tq.bt (dlt hj) (Tq.bt (dle0 _) (Tq.some (lg hj) (Tq.bt (dle0 _) (Tq.some (lg hf) ?_))));cases c3:free[j]
      . refine Tq.bt rfl (Tq.bt (dle0 _) (Tq.some (lg hj') ?_));by_cases c:h[j]=s[j]
        . rw[bo_congr (and_congr_left fun _=>FT_next fun _ _=>.inl c),ws hj (by omega)];exact Tq.bf (bne_eq_false_iff_eq.2 c) (ih (j+1) (by omega))
        . rw[bo_f (fun e=>(e.1 j (Nat.le_refl _) hj hj').elim c fun⟨_,_,h⟩=>by rw[show free[j-0]=free[j]from rfl,c3]at h;cases h)];exact Tq.bt (bne_iff_ne.2 c) (Tq.ret rfl)
      . rw[bo_congr (and_congr_left fun _=>FT_next fun _ _=>.inr ⟨Nat.zero_le _,hf,c3⟩),ws hj (by omega)];exact Tq.bf rfl (ih (j+1) (by omega))
  exact Tq.diag (key _ 0 rfl)
theorem FT_split {o h l s:List Int}{free:List Bool}(h1:o.length=l.length)(h2:h.length=s.length)(h3:free.length=h.length):(FT h s 0 free 0∧o=l)↔FT (o++h) (l++s) l.length free 0:=by
  constructor
  . rintro⟨e,rfl⟩ i _ i1 i2;rcases Nat.lt_or_ge i o.length with c|c
    . left;rw[List.getElem_append_left c,List.getElem_append_left c]
    . rw[List.length_append]at i1 i2;rw[List.getElem_append_right c,List.getElem_append_right c];exact(e (i-o.length) (Nat.zero_le _) (by omega) (by omega)).imp id fun⟨_,a,b⟩=>⟨c,a,b⟩
  . intro e;constructor
    . intro i _ i1 i2;have:=e (l.length+i) (Nat.zero_le _) (by rw[List.length_append];omega) (by rw[List.length_append];omega);rw[List.getElem_append_right (by omega),List.getElem_append_right (by omega)]at this;have e1:l.length+i-o.length=i:=by omega
      have e2:l.length+i-l.length=i:=by omega
      simp only[e1,e2]at this;exact this.imp id fun⟨_,a,b⟩=>⟨Nat.zero_le _,a,b⟩
    . refine List.ext_getElem h1 fun i i1 i2=>?_
      have:=e i (Nat.zero_le _) (by rw[List.length_append];omega) (by rw[List.length_append];omega);rw[List.getElem_append_left i1,List.getElem_append_left i2]at this;exact this.elim id fun⟨a,_⟩=>by omega
theorem ins_get {p:Pg}{n j:Nat}(h:j<(ins p n).length):(ins p n)[j]=inA p j:=by simp only[ins,List.getElem_map,List.getElem_range]
theorem ous_get {p:Pg}{t:Fs}{n j:Nat}(h:j<(ous p t n).length):(ous p t n)[j]=oc p t (inA p j):=by simp only[ous,List.getElem_map,List.getElem_range]
def Ft(p:Pg)(b:List Int)(free:List Bool)(m:Nat):Prop:=FT (inA p m) b p.2.1.length free 0
noncomputable def fous(p:Pg)(t:Fs)(b:List Int)(free:List Bool)(n:Nat):List Oc:=((List.range n).filter fun m=>bo (Ft p b free m)).map fun m=>oc p t (inA p m)
theorem fous_t {p:Pg}{t:Fs}{b:List Int}{free:List Bool}{n:Nat}(h:Ft p b free n):fous p t b free (n+1)=fous p t b free n++[oc p t (inA p n)]:=by
  unfold fous;rw[List.range_succ,List.filter_append,List.map_append,List.filter_cons_of_pos (by exact bo_t h)];rfl
theorem fous_f {p:Pg}{t:Fs}{b:List Int}{free:List Bool}{n:Nat}(h:¬Ft p b free n):fous p t b free (n+1)=fous p t b free n:=by
  unfold fous;rw[List.range_succ,List.filter_append,List.map_append,List.filter_cons_of_neg (by rw[bo_f h];exact Bool.false_ne_true)];exact List.append_nil _
theorem fous_len(p:Pg)(t:Fs)(b:List Int)(free:List Bool):∀n,(fous p t b free n).length≤n:=fun n=>by
  unfold fous;rw[List.length_map];have:=List.length_filter_le (fun m=>bo (Ft p b free m)) (List.range n);rw[List.length_range]at this;exact this
def RF(p:Pg)(l s:List Int)(free:List Bool):Prop:=StOk2 p l s∧free.length=s.length
section
variable {p:Pg}{t:Fs}(ht:Ok p t)
include ht
theorem fous_ok(b:List Int)(free:List Bool)(n:Nat):Fews (fous p t b free n):=fun o ho=>by
  obtain⟨m,_,rfl⟩:=List.mem_map.1 ho;exact oc_ok ht (inA_wi ht m)
theorem inA_len(m:Nat):(inA p m).length=p.2.1.length+p.2.2.1.length:=wi_len (inA_wi ht m)
theorem l8All_ans {b:List Int}{free:List Bool}(hb:b.length=p.2.1.length+p.2.2.1.length)(hf:free.length=p.2.2.1.length):
    Ans n_spec_l8All s_spec_l8All (p,ins p (cN p),ous p t (cN p),b,free,()) ((fous p t b free (cN p),()),()):=by
  have hp:=ht.hd.b;have hc:=(cN_bd ht).1;have l1:=ins_len p (cN p);have l2:=ous_len p t (cN p);refine Gv.ans (Gv.of (fun k=>spec_l8All.F_eq (cl k) k p (ins p (cN p)) (ous p t (cN p)) b free) ?_);unfold spec_l8All.F spec_l8All.Fm;have key:∀(d j:Nat),cN p-j=d→j≤cN p→Tq (d+1) (fun k q=>spec_l8All.L0 (cl k) k p (ins p (cN p)) (ous p t (cN p)) b free q (j:Int) (fous p t b free j)) (· =((fous p t b free (cN p),()),())):=by
    intro d
    induction d with
    | zero=>
      intro j hd hj;obtain rfl:j=cN p:=by omega
      refine Tq.succ ?_;show Tq _ (fun k q=>spec_l8All.step0 (cl k) k ..) _
      unfold spec_l8All.step0;exact Tq.bf (decide_eq_false (by rw[l1];omega)) (Tq.ret rfl)
    | succ d ih=>
      intro j hd hj;have hj1:j<(ins p (cN p)).length:=by omega
      have hj2:j<(ous p t (cN p)).length:=by omega
      have e1:=ins_get hj1;have e2:=ous_get hj2;have il:=inA_len ht j;have hF:=l8Fits_ans (a:=inA p j) (b:=b) (n:=p.2.1.length) (free:=free) (by omega) (by omega) (by omega);have g1:=lg hj1;have g2:=lg hj2;rw[e1]at g1;rw[e2]at g2;have fl:=fous_len p t b free j;refine Tq.succ ?_;show Tq _ (fun k q=>spec_l8All.step0 (cl k) k ..) _
      unfold spec_l8All.step0;refine Tq.bt (decide_eq_true (by omega)) (Tq.bt (dle0 _) (Tq.some g1 (Tq.ba hF ?_)));rw[ws (n:=cN p) (by omega) (by omega)];by_cases c:Ft p b free j
      . have:=ih (j+1) (by omega) (by omega);rw[fous_t c]at this;exact Tq.bt (bo_t c) (Tq.bt (dle0 _) (Tq.some g2 (Tq.bt (apb (by rw[ti_oc];simp only[List.length_cons,List.length_nil];omega)) this)))
      . have:=ih (j+1) (by omega) (by omega);rw[fous_f c]at this;exact Tq.bf (bo_f c) this
  exact Tq.diag (key _ 0 rfl (Nat.zero_le _))
theorem forTally_gv {l s:List Int}{free:List Bool}(hl:l.length=p.2.1.length)(hs:s.length=p.2.2.1.length)(hf:free.length=s.length):
    Gv n_impl_tallyOf__impl_tallyFor_1 s_impl_tallyOf__impl_tallyFor_1 (p,(free,s,l,()),()) (fun(r:(Tly×Unit)×Unit)=>TlI r.1.1 (tal [] (fous p t (l++s) free (cN p)))):=by
  have hp:=ht.hd.b;obtain⟨hc,ec⟩:=cN_bd ht;have hM:=many_ans ht.hd;refine Gv.of (fun k=>impl_tallyOf__impl_tallyFor_1.F_eq (cl k) k p (free,s,l,())) ?_;unfold impl_tallyOf__impl_tallyFor_1.F impl_tallyOf__impl_tallyFor_1.Fm;have key:∀(d j:Nat)(st:Tly),cN p-j=d→j≤cN p→TlI st (tal [] (fous p t (l++s) free j))→Tq (d+1) (fun k q=>impl_tallyOf__impl_tallyFor_1.L0 (cl k) k p (free,s,l,()) q (j:Int) st.2.2.1 st.2.1 st.1) (fun(r:(Tly×Unit)×Unit)=>TlI r.1.1 (tal [] (fous p t (l++s) free (cN p)))):=by
    intro d
    induction d with
    | zero=>
      intro j st hd hj hT;obtain rfl:j=cN p:=by omega
      refine Tq.succ ?_;show Tq _ (fun k q=>impl_tallyOf__impl_tallyFor_1.step0 (cl k) k ..) _
      unfold impl_tallyOf__impl_tallyFor_1.step0;exact Tq.ba hM (Tq.bf (decide_eq_false (by dsimp only;omega)) (Tq.ret hT))
    | succ d ih=>
      intro j st hd hj hT;have hB:Bd (tal [] (fous p t (l++s) free j)) (0+(fous p t (l++s) free j).length):=tal_bd (bd0 ht) (fous_ok ht _ _ j);have fl:=fous_len p t (l++s) free j;have il:=inA_len ht j;have hY:=wanted_ans (o:=(inA p j).take p.2.1.length) (h:=(inA p j).drop p.2.1.length) (s:=s) (l:=l) (free:=free) (by rw[List.length_drop];omega) (by rw[List.length_drop];omega) (by rw[List.length_drop];omega) (by rw[List.length_take];omega);have eF:(FT ((inA p j).drop p.2.1.length) s 0 free 0∧(inA p j).take p.2.1.length=l)↔Ft p (l++s) free j:=by
        rw[FT_split (by rw[List.length_take];omega) (by rw[List.length_drop];omega) (by rw[List.length_drop];omega),List.take_append_drop,hl];rfl
      rw[bo_congr eF]at hY;refine Tq.succ ?_;show Tq _ (fun k q=>impl_tallyOf__impl_tallyFor_1.step0 (cl k) k ..) _
      unfold impl_tallyOf__impl_tallyFor_1.step0;refine Tq.ba hM (Tq.bt (decide_eq_true (by dsimp only;omega)) (Tq.ba (inputOf_ans ht (by omega)) (Tq.ba hY ?_)));rw[ws (n:=cN p) (by omega) (by omega)];by_cases c:Ft p (l++s) free j
      . refine Tq.bt (bo_t c) (Tq.bind (runIn_gv ht j).tq ?_);rintro⟨⟨o,v,⟨⟩⟩,⟨⟩⟩ ho;have ho:o=oc p t (inA p j):=ho;subst ho;refine Tq.bind (add_gv hT hB (by omega) (oc_ok ht (inA_wi ht j))).tq ?_;rintro⟨⟨⟩,st',⟨⟩⟩ hT';refine ih (j+1) st' (by omega) (by omega) ?_;rw[fous_t c];unfold tal;rw[List.foldl_append];exact hT'
      . refine Tq.bf (bo_f c) (ih (j+1) st (by omega) (by omega) ?_);rw[fous_f c];exact hT
  exact Tq.diag (key _ 0 (none,[],[],()) rfl (Nat.zero_le _) TlI.nil)
end
section
variable {p:Pg}(hsm:Small p){l s:List Int}{free:List Bool}(hl:l.length≤1048576)(hs:s.length≤1048576)(hf:free.length≤1048576)
include hsm hl hs
theorem right_ans:Ans n_spec_l8Right s_spec_l8Right (p,l,s,free,()) ((bo (RF p l s free),()),()):=by
  have a2:=sStart_ans hsm hl hs;refine Gv.ans (Gv.of (fun k=>spec_l8Right.F_eq (cl k) k p l s free) ?_);unfold spec_l8Right.F spec_l8Right.Fm;unfold stA at a2;by_cases c:StOk2 p l s
  . rw[bo_t c]at a2;refine Tq.ba a2 (Tq.bt rfl (Tq.ret ?_));have e:=c.2.2.1;rw[bo_beq (Q:=RF p l s free) ⟨fun h=>⟨c,by omega⟩,fun h=>by have:=h.2;omega⟩]
  . rw[bo_f c]at a2;rw[bo_f (fun e=>c e.1)];exact Tq.ba a2 (Tq.bf rfl (Tq.ret rfl))
theorem tallyFor_no(h:¬RF p l s free):Ans n_impl_tallyFor s_impl_tallyFor (p,l,s,free,()) (((none,[],[],()),false,()),()):=by
  have a1:=iStart_ans hsm hl hs;refine Gv.ans (Gv.of (fun k=>impl_tallyFor.F_eq (cl k) k p l s free) ?_);unfold impl_tallyFor.F impl_tallyFor.Fm;unfold stA at a1;by_cases c:StOk2 p l s
  . rw[bo_t c]at a1;exact Tq.ba a1 (Tq.bf rfl (Tq.bt (bne_iff_ne.2 fun e=>h ⟨c,by omega⟩) (Tq.ret rfl)))
  . rw[bo_f c]at a1;exact Tq.ba a1 (Tq.bt rfl (Tq.ret rfl))
theorem tallyFor_yes {t:Fs}(ht:Ok p t)(h:RF p l s free):Gv n_impl_tallyFor s_impl_tallyFor (p,l,s,free,()) (fun(r:(Tly×(Bool×Unit))×Unit)=>r.1.2.1=true∧TlI r.1.1 (tal [] (fous p t (l++s) free (cN p)))):=by
  have a1:=iStart_ans hsm hl hs;refine Gv.of (fun k=>impl_tallyFor.F_eq (cl k) k p l s free) ?_;unfold impl_tallyFor.F impl_tallyFor.Fm;unfold stA at a1;rw[bo_t h.1]at a1;refine Tq.ba a1 (Tq.bf rfl (Tq.bf (bne_eq_false_iff_eq.2 (by have:=h.2;omega)) (Tq.bind (forTally_gv ht h.1.2.1.1 h.1.2.2.1 h.2).tq ?_)));rintro⟨⟨st,⟨⟩⟩,⟨⟩⟩ hT;exact Tq.ret ⟨rfl,hT⟩
theorem outs_yes {t:Fs}(ht:Ok p t)(h:RF p l s free):Ans n_spec_OutcomesOf s_spec_OutcomesOf (p,l,s,free,()) ((ddF [] (fous p t (l++s) free (cN p)),()),()):=by
  have a:=right_ans hsm hl hs (free:=free);rw[bo_t h]at a;have hp:=ht.hd.b;have h1:=h.1.2.1.1;have h2:=h.1.2.2.1;have h3:=h.2;have hc:=(cN_bd ht).1;have fl:=fous_len p t (l++s) free (cN p);have hA:=l8All_ans ht (b:=l++s) (free:=free) (by rw[List.length_append];omega) (by omega);refine Gv.ans (Gv.of (fun k=>spec_OutcomesOf.F_eq (cl k) k p l s free) ?_);unfold spec_OutcomesOf.F spec_OutcomesOf.Fm;refine Tq.ba a (Tq.bf rfl (Tq.ba (table_ans ht) (Tq.bt (apb (by rw[by2];omega)) (Tq.bt (apb (by rw[by2,List.nil_append];omega)) ?_))));rw[List.nil_append];exact Tq.ba hA (Tq.ba (diff_ans (l:=fous p t (l++s) free (cN p)) (fous_ok ht _ _ _) (by omega)) (Tq.ret rfl))
end
end Go.Proofs.YtjgfofcgmcnblaaGreat.Pf
namespace Go.Proofs.YtjgfofcgmcnblaaGreat.Pf
open Go Go.Pv IntKind
abbrev YE_0:Type:=(Int×((List (Int×(Int×Unit)))×((List (Int×(Int×Unit)))×(Int×((List Int)×((List (Int×(Int×((List (Int×(Int×Unit)))×((List (Int×(Int×Unit)))×Unit)))))×Unit))))))
abbrev YE_1:Type:=((((Option (List (ByteArray×Int)))×((List ((List Int)×(Int×(Int×Unit))))×((List Int)×Unit)))×(Bool×Unit))×Unit)
abbrev YE_2:Type:=((Option (List (ByteArray×Int))×List (List Int×Int×Int×Unit)×List Int×Unit)×Bool×Unit)
abbrev YE_3:Type:=((((List ((List Int)×(Int×(Int×Unit))))×Unit)×Unit))
abbrev YE_4:Type:=(((List ((List Int)×(Int×(Int×Unit))))×Unit)×Unit)
abbrev YE_5:Type:=((List (List Int×Int×Int×Unit)×Unit)×Unit)
abbrev YE_6:Type:=((List Int)×(Int×(Int×Unit)))
abbrev YE_7:Type:=(List Int×Int×Int×Unit)
abbrev YE_8:Type:=(Int×(Int×(Int×Unit)))
abbrev YE_9:Type:=((Int)×(Int))
namespace impl_Weigh
abbrev R:=((Int×Unit)×Unit)
def Fm(call:Cl)(k:Nat)(a0:YE_0)(a1:(List Int))(a2:(List Int))(a3:(List Bool)):Option R:=(call 105 s_impl_tallyFor (a0,a1,a2,a3,())).bind fun(y0:YE_2×Unit)=>bif !y0.1.2.1 then some (((-1),()),())else some (((↑(List.length y0.1.1.2.1):Int),()),())
def F(call:Cl)(k:Nat)(a0:YE_0)(a1:(List Int))(a2:(List Int))(a3:(List Bool)):Option R:=Fm call k a0 a1 a2 a3
theorem F_eq(call:Cl)(k:Nat)(a0:YE_0)(a1:(List Int))(a2:(List Int))(a3:(List Bool)):bodyK E call n_impl_Weigh k s_impl_Weigh (a0,a1,a2,a3,())=F call k a0 a1 a2 a3:=by kernel_rfl
end impl_Weigh
namespace spec_Weigh
abbrev R:=((Int×Unit)×Unit)
def Fm(call:Cl)(k:Nat)(a0:YE_0)(a1:(List Int))(a2:(List Int))(a3:(List Bool)):Option R:=(call 109 s_spec_l8Right (a0,a1,a2,a3,())).bind fun(y0:(Bool×Unit)×Unit)=>bif !y0.1.1 then some (((-1),()),())else(call 37 s_spec_OutcomesOf (a0,a1,a2,a3,())).bind fun(y1:YE_5)=>some (((↑(List.length y1.1.1):Int),()),())
def F(call:Cl)(k:Nat)(a0:YE_0)(a1:(List Int))(a2:(List Int))(a3:(List Bool)):Option R:=Fm call k a0 a1 a2 a3
theorem F_eq(call:Cl)(k:Nat)(a0:YE_0)(a1:(List Int))(a2:(List Int))(a3:(List Bool)):bodyK E call n_spec_Weigh k s_spec_Weigh (a0,a1,a2,a3,())=F call k a0 a1 a2 a3:=by kernel_rfl
end spec_Weigh
namespace impl_shapeOf
abbrev R:=(((Int×(Int×(Int×Unit)))×Unit)×Unit)
def Fm(call:Cl)(k:Nat)(a0:YE_6):Option R:=some ((((↑(List.length a0.1):Int),a0.2.1,a0.2.2.1,()),()),())
def F(call:Cl)(k:Nat)(a0:YE_6):Option R:=Fm call k a0
theorem F_eq(call:Cl)(k:Nat)(a0:YE_6):bodyK E call n_impl_shapeOf k s_impl_shapeOf (a0,())=F call k a0:=by kernel_rfl
end impl_shapeOf
namespace spec_l15Shape
abbrev R:=(((Int×(Int×(Int×Unit)))×Unit)×Unit)
def Fm(call:Cl)(k:Nat)(a0:YE_6):Option R:=some ((((↑(List.length a0.1):Int),a0.2.1,a0.2.2.1,()),()),())
def F(call:Cl)(k:Nat)(a0:YE_6):Option R:=Fm call k a0
theorem F_eq(call:Cl)(k:Nat)(a0:YE_6):bodyK E call n_spec_l15Shape k s_spec_l15Shape (a0,())=F call k a0:=by kernel_rfl
end spec_l15Shape
namespace impl_WeighShape
abbrev R:=((Int×Unit)×Unit)
def S0(a4:YE_8)(y0:YE_1)(v0_0:Int)(v0_2:Int):St:=⟨mkS 42 [(9,.p [500009] [] 0),(11,.p [500011] [] 0),(13,.v tI v0_0),(26,.v tI ((↑(List.length y0.1.1.2.1):Int))),(27,.v tI v0_2)],[([500011,5,1,1,0],.list 2 tI (y0.1.1.2.2.1)),([500011,5,1,0],.list 38 (.pair (.own 2 tI) tTm) (y0.1.1.2.1)),([500011,5,0],.map 141 .str tI (y0.1.1.1)),([500011],.box (.pr (.ref [500011,5,0]) (.pr (.ref [500011,5,1,0]) (.pr (.ref [500011,5,1,1,0]) (.v .unit ()))))),([500009],.box (.v (.pair tI tTm) ((a4.1),((a4.2.1),((a4.2.2.1),())))))]⟩
def step0(call:Cl)(k:Nat)(a4:YE_8)(y0:YE_1)(r0:(Int)→(Int)→Option R)(v0_0:Int)(v0_2:Int):Option R:=bif decide (v0_2<(↑(List.length y0.1.1.2.1):Int))then bif decide (0≤v0_2)&&decide (v0_2.toNat<List.length y0.1.1.2.1)then(lget y0.1.1.2.1 v0_2.toNat).bind fun(y1:YE_7)=>(call 101 s_impl_shapeOf (y1,())).bind fun(y2:(((Int×Int×Int×Unit)×Unit)×Unit))=>(call 104 s_impl_truth (eqV ((Ty.int .i64).pair ((Ty.int .i64).pair ((Ty.int .i64).pair Ty.unit))) y2.1.1 (a4.1,a4.2.1,a4.2.2.1,()),())).bind fun(y3:(Int×Unit)×Unit)=>r0 (i64.wrap (v0_0+y3.1.1)) (i64.wrap (v0_2+1))else none else some ((v0_0,()),())
def L0(call:Cl)(k:Nat)(a4:YE_8)(y0:YE_1):Nat→(Int)→(Int)→Option R|0,_,_=>none|n+1,v0_0,v0_2=>step0 call k a4 y0 (L0 call k a4 y0 n) v0_0 v0_2
def Fm(call:Cl)(k:Nat)(l0:(YE_8)→(YE_1)→(Int)→(Int)→Option R)(a0:YE_0)(a1:(List Int))(a2:(List Int))(a3:(List Bool))(a4:YE_8):Option R:=(call 105 s_impl_tallyFor (a0,a1,a2,a3,())).bind fun(y0:YE_2×Unit)=>bif !y0.1.2.1 then some (((-1),()),())else l0 a4 y0 0 0
def F(call:Cl)(k:Nat)(a0:YE_0)(a1:(List Int))(a2:(List Int))(a3:(List Bool))(a4:YE_8):Option R:=Fm call k (fun a4_ y0_ v0_0_ v0_2_=>L0 call k a4_ y0_ k v0_0_ v0_2_) a0 a1 a2 a3 a4
theorem L0_eq(call:Cl)(k:Nat)(J:Nat→St→Option R)(a0:YE_0)(a1:(List Int))(a2:(List Int))(a3:(List Bool))(a4:YE_8)(y0:YE_1):∀(n:Nat)(x:YE_9),siteI E call n_impl_WeighShape k s_impl_WeighShape (a0,a1,a2,a3,a4,()) J 0 n (S0 a4 y0 x.1 x.2)=L0 call k a4 y0 n x.1 x.2:=by
  refine loop_eq (s:=s_impl_WeighShape) (fun x=>S0 a4 y0 x.1 x.2) (fun n x=>L0 call k a4 y0 n x.1 x.2) (fun r x=>step0 call k a4 y0 (fun v0_0 v0_2=>r (v0_0,v0_2)) x.1 x.2) (fun _=>rfl) (fun _ _=>rfl) fun J0 x=>?_
  kernel_rfl
theorem F_eq(call:Cl)(k:Nat)(a0:YE_0)(a1:(List Int))(a2:(List Int))(a3:(List Bool))(a4:YE_8):bodyK E call n_impl_WeighShape k s_impl_WeighShape (a0,a1,a2,a3,a4,())=F call k a0 a1 a2 a3 a4:=by
  exact Eq.trans (b:=Fm call k (fun a4 y0 v0_0_ v0_2_=>siteI E call n_impl_WeighShape k s_impl_WeighShape (a0,a1,a2,a3,a4,()) (fun _ _=>none) 0 k (S0 a4 y0 v0_0_ v0_2_)) a0 a1 a2 a3 a4) (by kernel_rfl) (congrArg (fun l=>Fm call k l a0 a1 a2 a3 a4) (funext fun a4=>funext fun y0=>funext fun v0_0_=>funext fun v0_2_=>L0_eq call k (fun _ _=>none) a0 a1 a2 a3 a4 y0 k (v0_0_,v0_2_)))
end impl_WeighShape
namespace spec_WeighShape
abbrev R:=((Int×Unit)×Unit)
def S0(a4:YE_8)(y1:YE_3)(v0_0:Int)(v0_2:Int):St:=⟨mkS 41 [(9,.p [500009] [] 0),(11,.v tI v0_0),(12,.v (.slc (.pair (.slc tI) tTm)) (y1.1.1)),(13,.v tI v0_2)],[([500009],.box (.v (.pair tI tTm) ((a4.1),((a4.2.1),((a4.2.2.1),())))))]⟩
def step0(call:Cl)(k:Nat)(a4:YE_8)(y1:YE_4)(r0:(Int)→(Int)→Option R)(v0_0:Int)(v0_2:Int):Option R:=bif decide (v0_2<(↑(List.length y1.1.1):Int))then bif decide (0≤v0_2)then(lget y1.1.1 v0_2.toNat).bind fun(y2:YE_7)=>(call 108 s_spec_l15Shape (y2,())).bind fun(y3:(((Int×Int×Int×Unit)×Unit)×Unit))=>bif eqV ((Ty.int .i64).pair ((Ty.int .i64).pair ((Ty.int .i64).pair Ty.unit))) y3.1.1 (a4.1,a4.2.1,a4.2.2.1,())then r0 (i64.wrap (v0_0+1)) (i64.wrap (v0_2+1))else r0 v0_0 (i64.wrap (v0_2+1))else none else some ((v0_0,()),())
def L0(call:Cl)(k:Nat)(a4:YE_8)(y1:YE_4):Nat→(Int)→(Int)→Option R|0,_,_=>none|n+1,v0_0,v0_2=>step0 call k a4 y1 (L0 call k a4 y1 n) v0_0 v0_2
def Fm(call:Cl)(k:Nat)(l0:(YE_8)→YE_3→(Int)→(Int)→Option R)(a0:YE_0)(a1:(List Int))(a2:(List Int))(a3:(List Bool))(a4:YE_8):Option R:=(call 109 s_spec_l8Right (a0,a1,a2,a3,())).bind fun(y0:(Bool×Unit)×Unit)=>bif !y0.1.1 then some (((-1),()),())else(call 37 s_spec_OutcomesOf (a0,a1,a2,a3,())).bind fun(y1:YE_5)=>l0 a4 y1 0 0
def F(call:Cl)(k:Nat)(a0:YE_0)(a1:(List Int))(a2:(List Int))(a3:(List Bool))(a4:YE_8):Option R:=Fm call k (fun a4_ y1_ v0_0_ v0_2_=>L0 call k a4_ y1_ k v0_0_ v0_2_) a0 a1 a2 a3 a4
theorem L0_eq(call:Cl)(k:Nat)(J:Nat→St→Option R)(a0:YE_0)(a1:(List Int))(a2:(List Int))(a3:(List Bool))(a4:YE_8)(y1:YE_4):∀(n:Nat)(x:YE_9),siteI E call n_spec_WeighShape k s_spec_WeighShape (a0,a1,a2,a3,a4,()) J 0 n (S0 a4 y1 x.1 x.2)=L0 call k a4 y1 n x.1 x.2:=by
  refine loop_eq (s:=s_spec_WeighShape) (fun x=>S0 a4 y1 x.1 x.2) (fun n x=>L0 call k a4 y1 n x.1 x.2) (fun r x=>step0 call k a4 y1 (fun v0_0 v0_2=>r (v0_0,v0_2)) x.1 x.2) (fun _=>rfl) (fun _ _=>rfl) fun J0 x=>?_
  kernel_rfl
theorem F_eq(call:Cl)(k:Nat)(a0:YE_0)(a1:(List Int))(a2:(List Int))(a3:(List Bool))(a4:YE_8):bodyK E call n_spec_WeighShape k s_spec_WeighShape (a0,a1,a2,a3,a4,())=F call k a0 a1 a2 a3 a4:=by
  exact Eq.trans (b:=Fm call k (fun a4 y1 v0_0_ v0_2_=>siteI E call n_spec_WeighShape k s_spec_WeighShape (a0,a1,a2,a3,a4,()) (fun _ _=>none) 0 k (S0 a4 y1 v0_0_ v0_2_)) a0 a1 a2 a3 a4) (by kernel_rfl) (congrArg (fun l=>Fm call k l a0 a1 a2 a3 a4) (funext fun a4=>funext fun y1=>funext fun v0_0_=>funext fun v0_2_=>L0_eq call k (fun _ _=>none) a0 a1 a2 a3 a4 y1 k (v0_0_,v0_2_)))
end spec_WeighShape
namespace impl_ClassSizes
abbrev R:=(((List Int)×Unit)×Unit)
def Fm(call:Cl)(k:Nat)(a0:YE_0)(a1:(List Int))(a2:(List Int))(a3:(List Bool)):Option R:=(call 105 s_impl_tallyFor (a0,a1,a2,a3,())).bind fun(y0:YE_2×Unit)=>some ((y0.1.1.2.2.1,()),())
def F(call:Cl)(k:Nat)(a0:YE_0)(a1:(List Int))(a2:(List Int))(a3:(List Bool)):Option R:=Fm call k a0 a1 a2 a3
theorem F_eq(call:Cl)(k:Nat)(a0:YE_0)(a1:(List Int))(a2:(List Int))(a3:(List Bool)):bodyK E call n_impl_ClassSizes k s_impl_ClassSizes (a0,a1,a2,a3,())=F call k a0 a1 a2 a3:=by kernel_rfl
end impl_ClassSizes
namespace spec_ClassSizes
abbrev R:=(((List Int)×Unit)×Unit)
def S1(y2:YE_3)(y3:YE_3)(v0_2:Int)(v0_3:(List Int))(v1_3:Int)(v1_4:Int):St:=⟨mkS 70 [(9,.ref [500009]),(12,.v (.slc (.pair (.slc tI) tTm)) (y2.1.1)),(13,.v (.slc (.pair (.slc tI) tTm)) (y3.1.1)),(14,.v tI (v0_2)),(15,.v tI v1_3),(16,.v tI v1_4)],[([500009],.list 2 tI (v0_3))]⟩
def S0(y2:YE_3)(y3:YE_3)(v0_2:Int)(v0_3:(List Int)):St:=⟨mkS 70 [(9,.ref [500009]),(12,.v (.slc (.pair (.slc tI) tTm)) (y2.1.1)),(13,.v (.slc (.pair (.slc tI) tTm)) (y3.1.1)),(14,.v tI v0_2)],[([500009],.list 2 tI v0_3)]⟩
def step1(call:Cl)(k:Nat)(y2:YE_3)(y3:YE_3)(v0_2:Int)(v0_3:(List Int))(r0:(Int)→((List Int))→Option R)(r1:(Int)→(Int)→Option R)(v1_3:Int)(v1_4:Int):Option R:=bif decide (v1_4<(↑(List.length y2.1.1):Int))then bif decide (0≤v0_2)then(lget y3.1.1 v0_2.toNat).bind fun(y4:YE_7)=>bif decide (0≤v1_4)then(lget y2.1.1 v1_4.toNat).bind fun(y5:YE_7)=>(call 143 s_spec_LikeOutcomes (y4,y5,())).bind fun(y6:(Bool×Unit)×Unit)=>bif y6.1.1 then r1 (i64.wrap (v1_3+1)) (i64.wrap (v1_4+1))else r1 v1_3 (i64.wrap (v1_4+1))else none else none else bif decide ((v0_3.length+[v1_3].length)*ti2.bytes≤140737488355328)then r0 (i64.wrap (v0_2+1)) (v0_3++[v1_3])else none
def L1(call:Cl)(k:Nat)(y2:YE_3)(y3:YE_3)(v0_2:Int)(v0_3:(List Int))(r0:(Int)→((List Int))→Option R):Nat→(Int)→(Int)→Option R|0,_,_=>none|n+1,v1_3,v1_4=>step1 call k y2 y3 v0_2 v0_3 r0 (L1 call k y2 y3 v0_2 v0_3 r0 n) v1_3 v1_4
def step0(call:Cl)(k:Nat)(y3:YE_3)(y2:YE_4)(l1:YE_3→YE_3→(Int)→((List Int))→(Int)→(Int)→Option R)(r0:(Int)→((List Int))→Option R)(v0_2:Int)(v0_3:(List Int)):Option R:=bif decide (v0_2<(↑(List.length y3.1.1):Int))then l1 y2 y3 v0_2 v0_3 0 0 else some ((v0_3,()),())
def L0(call:Cl)(k:Nat)(y3:YE_3)(y2:YE_4):Nat→(Int)→((List Int))→Option R|0,_,_=>none|n+1,v0_2,v0_3=>step0 call k y3 y2 (fun y2_ y3_ v0_2_ v0_3_ v1_3_ v1_4_=>L1 call k y2_ y3_ v0_2_ v0_3_ (L0 call k y3 y2 n) k v1_3_ v1_4_) (L0 call k y3 y2 n) v0_2 v0_3
def Fm(call:Cl)(k:Nat)(l0:YE_3→YE_3→(Int)→((List Int))→Option R)(a0:YE_0)(a1:(List Int))(a2:(List Int))(a3:(List Bool)):Option R:=(call 109 s_spec_l8Right (a0,a1,a2,a3,())).bind fun(y0:(Bool×Unit)×Unit)=>bif !y0.1.1 then some (([],()),())else(call 106 s_spec_l8Table (a0,())).bind fun(y1:((List (List Int)×List YE_7×Unit)×Unit))=>bif decide ((0+a1.length)*ti2.bytes≤140737488355328)then bif decide ((([]++a1).length+a2.length)*ti2.bytes≤140737488355328)then(call 111 s_spec_l8All (a0,y1.1.1,y1.1.2.1,[]++a1++a2,a3,())).bind fun(y2:YE_5)=>(call 110 s_spec_l8Different (y2.1.1,())).bind fun(y3:YE_5)=>l0 y3 y2 0 []else none else none
def F(call:Cl)(k:Nat)(a0:YE_0)(a1:(List Int))(a2:(List Int))(a3:(List Bool)):Option R:=Fm call k (fun y3_ y2_ v0_2_ v0_3_=>L0 call k y3_ y2_ k v0_2_ v0_3_) a0 a1 a2 a3
theorem L1_eq(call:Cl)(k:Nat)(J:Nat→St→Option R)(a0:YE_0)(a1:(List Int))(a2:(List Int))(a3:(List Bool))(y2:YE_4)(y3:YE_4)(v0_2:Int)(v0_3:(List Int)):∀(n:Nat)(x:YE_9),siteI E call n_spec_ClassSizes k s_spec_ClassSizes (a0,a1,a2,a3,()) J 1 n (S1 y2 y3 v0_2 v0_3 x.1 x.2)=L1 call k y2 y3 v0_2 v0_3 (fun v0_2_ v0_3_=>J 0 (S0 y2 y3 v0_2_ v0_3_)) n x.1 x.2:=by
  refine loop_eq (s:=s_spec_ClassSizes) (fun x=>S1 y2 y3 v0_2 v0_3 x.1 x.2) (fun n x=>L1 call k y2 y3 v0_2 v0_3 (fun v0_2_ v0_3_=>J 0 (S0 y2 y3 v0_2_ v0_3_)) n x.1 x.2) (fun r x=>step1 call k y2 y3 v0_2 v0_3 (fun v0_2_ v0_3_=>J 0 (S0 y2 y3 v0_2_ v0_3_)) (fun v1_3 v1_4=>r (v1_3,v1_4)) x.1 x.2) (fun _=>rfl) (fun _ _=>rfl) fun J0 x=>?_
  kernel_rfl
theorem L0_eq(call:Cl)(k:Nat)(J:Nat→St→Option R)(a0:YE_0)(a1:(List Int))(a2:(List Int))(a3:(List Bool))(y2:YE_4)(y3:YE_4):∀(n:Nat)(x:((Int)×((List Int)))),siteI E call n_spec_ClassSizes k s_spec_ClassSizes (a0,a1,a2,a3,()) J 0 n (S0 y2 y3 x.1 x.2)=L0 call k y3 y2 n x.1 x.2:=by
  refine loop_eq (s:=s_spec_ClassSizes) (fun x=>S0 y2 y3 x.1 x.2) (fun n x=>L0 call k y3 y2 n x.1 x.2) (fun r x=>step0 call k y3 y2 (fun(y2:YE_4)(y3:YE_4)(v0_2:Int)(v0_3:(List Int))(v1_3_:Int)(v1_4_:Int)=>L1 call k y2 y3 v0_2 v0_3 (fun v0_2_ v0_3_=>r (v0_2_,v0_3_)) k v1_3_ v1_4_) (fun v0_2 v0_3=>r (v0_2,v0_3)) x.1 x.2) (fun _=>rfl) (fun _ _=>rfl) fun J0 x=>?_
  refine Eq.trans (b:=step0 call k y3 y2 (fun y2 y3 v0_2 v0_3 v1_3_ v1_4_=>siteI E call n_spec_ClassSizes k s_spec_ClassSizes (a0,a1,a2,a3,()) (upJ 0 J0 J) 1 k (S1 y2 y3 v0_2 v0_3 v1_3_ v1_4_)) (fun v0_2 v0_3=>J0 (S0 y2 y3 v0_2 v0_3)) x.1 x.2) (by kernel_rfl) ?_;rw[show(fun(y2:YE_4)(y3:YE_4)(v0_2:Int)(v0_3:(List Int))(v1_3_:Int)(v1_4_:Int)=>siteI E call n_spec_ClassSizes k s_spec_ClassSizes (a0,a1,a2,a3,()) (upJ 0 J0 J) 1 k (S1 y2 y3 v0_2 v0_3 v1_3_ v1_4_))=(fun(y2:YE_4)(y3:YE_4)(v0_2:Int)(v0_3:(List Int))(v1_3_:Int)(v1_4_:Int)=>L1 call k y2 y3 v0_2 v0_3 (fun v0_2_ v0_3_=>(upJ 0 J0 J) 0 (S0 y2 y3 v0_2_ v0_3_)) k v1_3_ v1_4_)from funext fun y2=>funext fun y3=>funext fun v0_2=>funext fun v0_3=>funext fun v1_3_=>funext fun v1_4_=>L1_eq call k (upJ 0 J0 J) a0 a1 a2 a3 y2 y3 v0_2 v0_3 k (v1_3_,v1_4_)]
  all_goals rfl
theorem F_eq(call:Cl)(k:Nat)(a0:YE_0)(a1:(List Int))(a2:(List Int))(a3:(List Bool)):bodyK E call n_spec_ClassSizes k s_spec_ClassSizes (a0,a1,a2,a3,())=F call k a0 a1 a2 a3:=by
  exact Eq.trans (b:=Fm call k (fun y3 y2 v0_2_ v0_3_=>siteI E call n_spec_ClassSizes k s_spec_ClassSizes (a0,a1,a2,a3,()) (fun _ _=>none) 0 k (S0 y2 y3 v0_2_ v0_3_)) a0 a1 a2 a3) (by kernel_rfl) (congrArg (fun l=>Fm call k l a0 a1 a2 a3) (funext fun y3=>funext fun y2=>funext fun v0_2_=>funext fun v0_3_=>L0_eq call k (fun _ _=>none) a0 a1 a2 a3 y2 y3 k (v0_2_,v0_3_)))
end spec_ClassSizes
namespace laws_toShape
abbrev R:=(((Int×(Int×(Int×Unit)))×Unit)×Unit)
def Fm(call:Cl)(k:Nat)(a0:YE_8):Option R:=some (((a0.1,a0.2.1,a0.2.2.1,()),()),())
def F(call:Cl)(k:Nat)(a0:YE_8):Option R:=Fm call k a0
theorem F_eq(call:Cl)(k:Nat)(a0:YE_8):bodyK E call n_laws_toShape k s_laws_toShape (a0,())=F call k a0:=by kernel_rfl
end laws_toShape
end Go.Proofs.YtjgfofcgmcnblaaGreat.Pf
namespace Go.Proofs.YtjgfofcgmcnblaaGreat.Pf
open Go Go.Pv
section
variable {p:Pg}(hsm:Small p){l s:List Int}{free:List Bool}(hl:l.length≤1048576)(hs:s.length≤1048576)
include hsm hl hs
theorem weigh_agree:∃x:Int,Ans n_spec_Weigh s_spec_Weigh (p,l,s,free,()) ((x,()),())∧Ans n_impl_Weigh s_impl_Weigh (p,l,s,free,()) ((x,()),()):=by
  have a:=right_ans hsm hl hs (free:=free);by_cases c:RF p l s free
  . obtain⟨t,ht⟩:=c.1.1;rw[bo_t c]at a;refine⟨((ddF [] (fous p t (l++s) free (cN p))).length:Int),Gv.ans (Gv.of (fun k=>spec_Weigh.F_eq (cl k) k p l s free) ?_),Gv.ans (Gv.of (fun k=>impl_Weigh.F_eq (cl k) k p l s free) ?_)⟩
    . unfold spec_Weigh.F spec_Weigh.Fm;exact Tq.ba a (Tq.bf rfl (Tq.ba (outs_yes hsm hl hs ht c) (Tq.ret rfl)))
    . unfold impl_Weigh.F impl_Weigh.Fm;refine Tq.bind (tallyFor_yes hsm hl hs ht c).tq ?_;rintro⟨⟨st,b,⟨⟩⟩,⟨⟩⟩ ⟨hb,hT⟩;have hb:b=true:=hb;subst hb;have e:st.2.1=_:=hT.list;refine Tq.bf rfl (Tq.ret ?_);dsimp only;rw[e,tal_fst];rfl
  . rw[bo_f c]at a;refine⟨-1,Gv.ans (Gv.of (fun k=>spec_Weigh.F_eq (cl k) k p l s free) ?_),Gv.ans (Gv.of (fun k=>impl_Weigh.F_eq (cl k) k p l s free) ?_)⟩
    . unfold spec_Weigh.F spec_Weigh.Fm;exact Tq.ba a (Tq.bt rfl (Tq.ret rfl))
    . unfold impl_Weigh.F impl_Weigh.Fm;exact Tq.ba (tallyFor_no hsm hl hs c) (Tq.bt rfl (Tq.ret rfl))
end
abbrev Sh:=Int×(Int×(Int×Unit))
abbrev shT:Ty:=.pair (.int .i64) (.pair (.int .i64) (.pair (.int .i64) .unit))
def shp(o:Oc):Sh:=((o.1.length:Int),o.2.1,o.2.2.1,())
theorem eqSh(x y:Sh):eqV shT x y=bo (x=y):=by
  by_cases h:x=y
  . subst h;rw[bo_t rfl];simp[shT,eqV]
  . rw[bo_f h];cases e:eqV shT x y
    . rfl
    . exact absurd (keyV_eq (t:=shT) rfl e) h
noncomputable def cS(sh:Sh)(l:List Oc):Int:=((l.filter fun o=>bo (shp o=sh)).length:Int)
theorem cS_cons(sh:Sh)(o:Oc)(l:List Oc):cS sh (o::l)=(bif bo (shp o=sh)then 1 else 0)+cS sh l:=by
  unfold cS;by_cases h:shp o=sh
  . rw[List.filter_cons_of_pos (by exact bo_t h),bo_t h,List.length_cons];show((_+1:Nat):Int)=1+_
    omega
  . rw[List.filter_cons_of_neg (by rw[bo_f h];exact Bool.false_ne_true),bo_f h];show _=0+_
    omega
theorem iShape_ans(o:Oc):Ans n_impl_shapeOf s_impl_shapeOf (o,()) ((shp o,()),()):=
  Gv.ans (Gv.of (fun k=>impl_shapeOf.F_eq (cl k) k o) (Tq.ret rfl))
theorem sShape_ans(o:Oc):Ans n_spec_l15Shape s_spec_l15Shape (o,()) ((shp o,()),()):=
  Gv.ans (Gv.of (fun k=>spec_l15Shape.F_eq (cl k) k o) (Tq.ret rfl))
theorem iWS_loop(sh:Sh)(st:Tly)(b:Bool)(h:st.2.1.length≤1024):∀(d j:Nat)(c:Int),st.2.1.length-j=d→0≤c→c≤j→
    Tq (d+1) (fun k q=>impl_WeighShape.L0 (cl k) k sh ((st,b,()),()) q c (j:Int)) (· =((c+cS sh (st.2.1.drop j),()),())):=by
  intro d
  induction d with
  | zero=>
    intro j c hd h0 h1;refine Tq.succ ?_;show Tq _ (fun k q=>impl_WeighShape.step0 (cl k) k ..) _
    unfold impl_WeighShape.step0;rw[List.drop_of_length_le (by omega)];refine Tq.bf (dnlt (by dsimp only;omega)) (Tq.ret ?_);show _=((c+0,()),())
    rw[Int.add_zero]
  | succ d ih=>
    intro j c hd h0 h1;have hj:j<st.2.1.length:=by omega
    refine Tq.succ ?_;show Tq _ (fun k q=>impl_WeighShape.step0 (cl k) k ..) _
    unfold impl_WeighShape.step0;refine Tq.bt (dlt hj) (Tq.bt (idx_ok hj) (Tq.some (lg hj) (Tq.ba (iShape_ans _) (Tq.ba (truth_ans _) ?_))));dsimp only;have e:eqV shT (shp st.2.1[j]) (sh.1,sh.2.1,sh.2.2.1,())=bo (shp st.2.1[j]=sh):=eqSh _ _;rw[e,List.drop_eq_getElem_cons hj,cS_cons,ws hj (by omega),←Int.add_assoc];have hb:0≤(bif bo (shp st.2.1[j]=sh)then(1:Int)else 0)∧(bif bo (shp st.2.1[j]=sh)then(1:Int)else 0)≤1:=by cases bo (shp st.2.1[j]=sh)<;>decide
    rw[w64 (by omega) (by omega)];exact ih (j+1) _ (by omega) (by omega) (by omega)
theorem sWS_loop(sh:Sh)(l:List Oc)(h:l.length≤1024):∀(d j:Nat)(c:Int),l.length-j=d→0≤c→c≤j→
    Tq (d+1) (fun k q=>spec_WeighShape.L0 (cl k) k sh ((l,()),()) q c (j:Int)) (· =((c+cS sh (l.drop j),()),())):=by
  intro d
  induction d with
  | zero=>
    intro j c hd h0 h1;refine Tq.succ ?_;show Tq _ (fun k q=>spec_WeighShape.step0 (cl k) k ..) _
    unfold spec_WeighShape.step0;rw[List.drop_of_length_le (by omega)];refine Tq.bf (dnlt (by dsimp only;omega)) (Tq.ret ?_);show _=((c+0,()),())
    rw[Int.add_zero]
  | succ d ih=>
    intro j c hd h0 h1;have hj:j<l.length:=by omega
    refine Tq.succ ?_;show Tq _ (fun k q=>spec_WeighShape.step0 (cl k) k ..) _
    unfold spec_WeighShape.step0;refine Tq.bt (dlt hj) (Tq.bt (dle0 _) (Tq.some (lg hj) (Tq.ba (sShape_ans _) ?_)));dsimp only;have e:eqV shT (shp l[j]) (sh.1,sh.2.1,sh.2.2.1,())=bo (shp l[j]=sh):=eqSh _ _;rw[List.drop_eq_getElem_cons hj,cS_cons,ws hj (by omega),←Int.add_assoc,w64 (by omega) (by omega)];by_cases c2:shp l[j]=sh
    . rw[bo_t c2]at e⊢;exact Tq.bt e (ih (j+1) _ (by omega) (by show 0≤c+1;omega) (by show c+1≤_;omega))
    . rw[bo_f c2]at e⊢;have:=ih (j+1) c (by omega) (by omega) (by omega);refine Tq.bf e ?_;show Tq _ _ (· =((c+0+_,()),()))
      rw[Int.add_zero];exact this
section
variable {p:Pg}(hsm:Small p){l s:List Int}{free:List Bool}(hl:l.length≤1048576)(hs:s.length≤1048576)
include hsm hl hs
theorem weighS_agree(sh:Sh):∃x:Int,Ans n_spec_WeighShape s_spec_WeighShape (p,l,s,free,sh,()) ((x,()),())∧Ans n_impl_WeighShape s_impl_WeighShape (p,l,s,free,sh,()) ((x,()),()):=by
  have a:=right_ans hsm hl hs (free:=free);by_cases c:RF p l s free
  . obtain⟨t,ht⟩:=c.1.1;have hc:=(cN_bd ht).1;have fl:=fous_len p t (l++s) free (cN p);have dl:=dd_len [] (fous p t (l++s) free (cN p));simp only[List.length_nil]at dl;rw[bo_t c]at a;refine⟨cS sh (ddF [] (fous p t (l++s) free (cN p))),Gv.ans (Gv.of (fun k=>spec_WeighShape.F_eq (cl k) k p l s free sh) ?_),Gv.ans (Gv.of (fun k=>impl_WeighShape.F_eq (cl k) k p l s free sh) ?_)⟩
    . unfold spec_WeighShape.F spec_WeighShape.Fm;refine Tq.ba a (Tq.bf rfl (Tq.ba (outs_yes hsm hl hs ht c) ?_));have:=sWS_loop sh (ddF [] (fous p t (l++s) free (cN p))) (by omega) _ 0 0 rfl (Int.le_refl _) (Int.le_refl _);rw[Int.zero_add,List.drop_zero]at this;exact Tq.diag this
    . unfold impl_WeighShape.F impl_WeighShape.Fm;refine Tq.bind (tallyFor_yes hsm hl hs ht c).tq ?_;rintro⟨⟨st,b,⟨⟩⟩,⟨⟩⟩ ⟨hb,hT⟩;have hb:b=true:=hb;subst hb;have e:st.2.1=ddF [] (fous p t (l++s) free (cN p)):=by rw[hT.list,tal_fst];rfl
      refine Tq.bf rfl ?_;have:=iWS_loop sh st true (by rw[e];omega) _ 0 0 rfl (Int.le_refl _) (Int.le_refl _);rw[Int.zero_add,List.drop_zero,e]at this;exact Tq.diag this
  . rw[bo_f c]at a;refine⟨-1,Gv.ans (Gv.of (fun k=>spec_WeighShape.F_eq (cl k) k p l s free sh) ?_),Gv.ans (Gv.of (fun k=>impl_WeighShape.F_eq (cl k) k p l s free sh) ?_)⟩
    . unfold spec_WeighShape.F spec_WeighShape.Fm;exact Tq.ba a (Tq.bt rfl (Tq.ret rfl))
    . unfold impl_WeighShape.F impl_WeighShape.Fm;exact Tq.ba (tallyFor_no hsm hl hs c) (Tq.bt rfl (Tq.ret rfl))
end
noncomputable def cO(o:Oc)(l:List Oc):Int:=((l.filter fun x=>bo (o=x)).length:Int)
theorem cO_cons(o x:Oc)(l:List Oc):cO o (x::l)=(bif bo (o=x)then 1 else 0)+cO o l:=by
  unfold cO;by_cases h:o=x
  . rw[List.filter_cons_of_pos (by exact bo_t h),bo_t h,List.length_cons];show((_+1:Nat):Int)=1+_
    omega
  . rw[List.filter_cons_of_neg (by rw[bo_f h];exact Bool.false_ne_true),bo_f h];show _=0+_
    omega
def valT:Tal→Oc→Int
  |[],_=>0
  |(a,n)::l,o=>if a=o then n else valT l o
theorem val_bump:∀(L:Tal)(x o:Oc),valT (bump L x) o=valT L o+(bif bo (o=x)then 1 else 0)
  | [],x,o=>by
    simp only[bump,valT];by_cases c:x=o
    . rw[if_pos c,bo_t c.symm];rfl
    . rw[if_neg c,bo_f (fun e=>c e.symm)];rfl
  | (a, n)::l,x,o=>by
    unfold bump;by_cases c:a=x
    . rw[if_pos c];simp only[valT];by_cases c2:a=o
      . rw[if_pos c2,if_pos c2,bo_t (c2.symm.trans c)];rfl
      . rw[if_neg c2,if_neg c2,bo_f (fun e=>c2 (c.trans e.symm))];show _=_+0
        omega
    . rw[if_neg c];simp only[valT];by_cases c2:a=o
      . rw[if_pos c2,if_pos c2,bo_f (fun e=>c (c2.trans e))];show _=_+0
        omega
      . rw[if_neg c2,if_neg c2,val_bump l x o]
theorem val_tal:∀(L:Tal)(l:List Oc)(o:Oc),valT (tal L l) o=valT L o+cO o l
  |L,[],o=>(Int.add_zero _).symm
  | L,x::l,o=>by
    show valT (tal (bump L x) l) o=_
    rw[val_tal,val_bump,cO_cons,Int.add_assoc]
theorem bump_nd {L:Tal}{o:Oc}(h:(L.map (·.1)).Nodup):((bump L o).map (·.1)).Nodup:=by
  rw[bump_fst];split
  . exact h
  . rename_i c;rw[List.nodup_append];exact⟨h,by simp,fun a ha b hb e=>c (by rw[List.mem_singleton]at hb;rw[←hb,←e];exact ha)⟩
theorem tal_nd:∀{L:Tal}{l:List Oc},(L.map (·.1)).Nodup→((tal L l).map (·.1)).Nodup
  |L,[],h=>h
  |L,x::l,h=>tal_nd (L:=bump L x) (bump_nd h)
theorem snd_val:∀{L:Tal},(L.map (·.1)).Nodup→L.map (·.2)=(L.map (·.1)).map (valT L)
  |[],_=>rfl
  | (a,n)::l,h=>by
    simp only[List.map_cons,List.nodup_cons]at h⊢;have e:valT ((a,n)::l) a=n:=if_pos rfl;rw[e,snd_val h.2]
    congr 1
    refine List.map_congr_left fun o ho=>?_
    simp only[valT];rw[if_neg (fun e2:a=o=>h.1 (by rw[e2];exact ho))]
theorem sizes_eq(os:List Oc):(tal [] os).map (·.2)=(ddF [] os).map fun o=>cO o os:=by
  rw[snd_val (tal_nd (L:=[]) List.nodup_nil),tal_fst];refine List.map_congr_left fun o _=>?_
  rw[val_tal];exact Int.zero_add _
theorem sCls {kinds os:List Oc}(hk:Fews kinds)(ho:Fews os)(h1:kinds.length≤1024)(h2:os.length≤1024):
    ∀(d j:Nat),kinds.length-j=d→j≤kinds.length→Tq (d+1) (fun k q=>spec_ClassSizes.L0 (cl k) k ((kinds,()),()) ((os,()),()) q (j:Int) ((kinds.take j).map fun o=>cO o os)) (· =((kinds.map (fun o=>cO o os),()),())):=by
  intro d
  induction d with
  | zero=>
    intro j hd hj;refine Tq.succ ?_;show Tq _ (fun k q=>spec_ClassSizes.step0 (cl k) k ..) _
    unfold spec_ClassSizes.step0;rw[List.take_of_length_le (by omega)];exact Tq.bf (dnlt (by dsimp only;omega)) (Tq.ret rfl)
  | succ d ih=>
    intro j hd hj;have hj1:j<kinds.length:=by omega
    have hL:=hk _ (List.getElem_mem hj1);refine Tq.succ ?_;show Tq _ (fun k q=>spec_ClassSizes.step0 (cl k) k ..) _
    unfold spec_ClassSizes.step0;refine Tq.bt (dlt hj1) ?_;have key:∀(c i:Nat)(n:Int),os.length-i=c→0≤n→n≤i→((bd:Nat)→n+cO kinds[j] (os.drop i)=cO kinds[j] os)→∀(m:Nat→Nat)(N:Nat),(∀k,N≤k→c+1≤m k)→
        Tq (d+1) (fun k q=>spec_ClassSizes.L1 (cl k) k ((os,()),()) ((kinds,()),()) (j:Int) ((kinds.take j).map fun o=>cO o os) (spec_ClassSizes.L0 (cl k) k ((kinds,()),()) ((os,()),()) q) (m k) n (i:Int)) (· =((kinds.map (fun o=>cO o os),()),())):=by
      intro c
      induction c with
      | zero=>
        intro i n hc h0 hn he m N hm;refine Tq.fuel (F:=fun k q z=>spec_ClassSizes.L1 (cl k) k ((os,()),()) ((kinds,()),()) (j:Int) ((kinds.take j).map fun o=>cO o os) (spec_ClassSizes.L0 (cl k) k ((kinds,()),()) ((os,()),()) q) z n (i:Int)) (G:=fun k q z=>spec_ClassSizes.step1 (cl k) k ((os,()),()) ((kinds,()),()) (j:Int) ((kinds.take j).map fun o=>cO o os) (spec_ClassSizes.L0 (cl k) k ((kinds,()),()) ((os,()),()) q) (spec_ClassSizes.L1 (cl k) k ((os,()),()) ((kinds,()),()) (j:Int) ((kinds.take j).map fun o=>cO o os) (spec_ClassSizes.L0 (cl k) k ((kinds,()),()) ((os,()),()) q) z) n (i:Int)) (fun _ _ _=>rfl) hm ?_;unfold spec_ClassSizes.step1;have he:=he 0;rw[List.drop_of_length_le (by omega)]at he;have he:n+0=_:=he;rw[Int.add_zero]at he;refine Tq.bf (dnlt (by dsimp only;omega)) (Tq.bt (apb (by rw[by2,List.length_map,List.length_take];simp only[List.length_cons,List.length_nil];omega)) ?_);rw[ws hj1 (by omega),he];have:=ih (j+1) (by omega) (by omega);rw[List.take_succ_eq_append_getElem hj1,List.map_append]at this;exact this
      | succ c ihc=>
        intro i n hc h0 hn he m N hm;have hi:i<os.length:=by omega
        refine Tq.fuel (F:=fun k q z=>spec_ClassSizes.L1 (cl k) k ((os,()),()) ((kinds,()),()) (j:Int) ((kinds.take j).map fun o=>cO o os) (spec_ClassSizes.L0 (cl k) k ((kinds,()),()) ((os,()),()) q) z n (i:Int)) (G:=fun k q z=>spec_ClassSizes.step1 (cl k) k ((os,()),()) ((kinds,()),()) (j:Int) ((kinds.take j).map fun o=>cO o os) (spec_ClassSizes.L0 (cl k) k ((kinds,()),()) ((os,()),()) q) (spec_ClassSizes.L1 (cl k) k ((os,()),()) ((kinds,()),()) (j:Int) ((kinds.take j).map fun o=>cO o os) (spec_ClassSizes.L0 (cl k) k ((kinds,()),()) ((os,()),()) q) z) n (i:Int)) (fun _ _ _=>rfl) (fun k hk=>by have:=hm k hk;omega) ?_;unfold spec_ClassSizes.step1;have hA:=likeO_ans kinds[j] os[i] (by have:=hL.l;omega) (by have:=(ho _ (List.getElem_mem hi)).l;omega);refine Tq.bt (dlt hi) (Tq.bt (dle0 _) (Tq.some (lg hj1) (Tq.bt (dle0 _) (Tq.some (lg hi) (Tq.ba hA ?_)))));rw[ws hi (by omega),w64 (by omega) (by omega)];have he:=he 0;rw[List.drop_eq_getElem_cons hi,cO_cons,←Int.add_assoc]at he;by_cases c2:kinds[j]=os[i]
        . rw[bo_t c2]at he;exact Tq.bt (bo_t c2) (ihc (i+1) (n+1) (by omega) (by omega) (by omega) (fun _=>he) _ N (fun k hk=>by have:=hm k hk;omega))
        . rw[bo_f c2]at he;have he:n+0+_=_:=he;rw[Int.add_zero]at he;exact Tq.bf (bo_f c2) (ihc (i+1) n (by omega) (by omega) (by omega) (fun _=>he) _ N (fun k hk=>by have:=hm k hk;omega))
    exact key os.length 0 0 rfl (Int.le_refl _) (Int.le_refl _) (fun _=>Int.zero_add _) (fun k=>k) (os.length+1) (fun k hk=>hk)
section
variable {p:Pg}(hsm:Small p){l s:List Int}{free:List Bool}(hl:l.length≤1048576)(hs:s.length≤1048576)
include hsm hl hs
theorem class_agree:∃x:List Int,x.length≤1024∧Ans n_spec_ClassSizes s_spec_ClassSizes (p,l,s,free,()) ((x,()),())∧Ans n_impl_ClassSizes s_impl_ClassSizes (p,l,s,free,()) ((x,()),()):=by
  have a:=right_ans hsm hl hs (free:=free);by_cases c:RF p l s free
  . obtain⟨t,ht⟩:=c.1.1;have hc:=(cN_bd ht).1;have fl:=fous_len p t (l++s) free (cN p);have fo:=fous_ok ht (l++s) free (cN p);have dl:=dd_len [] (fous p t (l++s) free (cN p));simp only[List.length_nil]at dl;rw[bo_t c]at a;have hp:=ht.hd.b;have h1:=c.1.2.1.1;have h2:=c.1.2.2.1;have h3:=c.2;have hA:=l8All_ans ht (b:=l++s) (free:=free) (by rw[List.length_append];omega) (by omega);refine⟨(ddF [] (fous p t (l++s) free (cN p))).map fun o=>cO o (fous p t (l++s) free (cN p)),by rw[List.length_map];omega,Gv.ans (Gv.of (fun k=>spec_ClassSizes.F_eq (cl k) k p l s free) ?_),Gv.ans (Gv.of (fun k=>impl_ClassSizes.F_eq (cl k) k p l s free) ?_)⟩
    . unfold spec_ClassSizes.F spec_ClassSizes.Fm;refine Tq.ba a (Tq.bf rfl (Tq.ba (table_ans ht) (Tq.bt (apb (by rw[by2];omega)) (Tq.bt (apb (by rw[by2,List.nil_append];omega)) ?_))));rw[List.nil_append];refine Tq.ba hA (Tq.ba (diff_ans (l:=fous p t (l++s) free (cN p)) fo (by omega)) ?_);exact Tq.diag (sCls (dd_ok (fun _ h=>by cases h) fo) fo (by omega) (by omega) _ 0 rfl (Nat.zero_le _))
    . unfold impl_ClassSizes.F impl_ClassSizes.Fm;refine Tq.bind (tallyFor_yes hsm hl hs ht c).tq ?_;rintro⟨⟨st,b,⟨⟩⟩,⟨⟩⟩ ⟨hb,hT⟩;have e:st.2.2.1=_:=hT.sizes;refine Tq.ret ?_;dsimp only;rw[e,sizes_eq]
  . rw[bo_f c]at a;refine⟨[],Nat.zero_le _,Gv.ans (Gv.of (fun k=>spec_ClassSizes.F_eq (cl k) k p l s free) ?_),Gv.ans (Gv.of (fun k=>impl_ClassSizes.F_eq (cl k) k p l s free) ?_)⟩
    . unfold spec_ClassSizes.F spec_ClassSizes.Fm;exact Tq.ba a (Tq.bt rfl (Tq.ret rfl))
    . unfold impl_ClassSizes.F impl_ClassSizes.Fm;exact Tq.ba (tallyFor_no hsm hl hs c) (Tq.ret rfl)
end
end Go.Proofs.YtjgfofcgmcnblaaGreat.Pf
namespace Go.Proofs.YtjgfofcgmcnblaaGreat.Pf
open Go Go.Pv
theorem szInt64S_gv(a:List Int)(n:Int)(h0:0≤n)(hn:n≤1048576)(ha:a.length≤maxLen):Gv n_laws_szInt64S s_laws_szInt64S (a,n,()) (fun(r:(Int×Unit)×Unit)=>r.1.1≤n∧(r.1.1<0∨(a.length:Int)≤n)):=by
  have ha:a.length≤9223372036854775807:=ha;refine Gv.of (fun k=>laws_szInt64S.F_eq (cl k) k a n) ?_;unfold laws_szInt64S.F laws_szInt64S.Fm;rw[w64 (by omega) (by omega)];refine Tq.bif (fun h=>Tq.ret ?_) fun h=>Tq.ret ?_
  . exact⟨by show(-1:Int)≤n;omega,.inl (by show(-1:Int)<0;omega)⟩
  . have h:=of_decide_eq_false h;exact⟨by show n-(a.length:Int)≤n;omega,.inr (by omega)⟩
theorem szInputS_gv(a:List Ip)(n:Int)(h0:0≤n)(hn:n≤1048576)(ha:a.length≤maxLen):Gv n_laws_szInputS s_laws_szInputS (a,n,()) (fun(r:(Int×Unit)×Unit)=>r.1.1≤n∧(r.1.1<0∨(a.length:Int)≤n)):=by
  have ha:a.length≤9223372036854775807:=ha;refine Gv.of (fun k=>laws_szInputS.F_eq (cl k) k a n) ?_;unfold laws_szInputS.F laws_szInputS.Fm;rw[w64 (by omega) (by omega)];refine Tq.bif (fun h=>Tq.ret ?_) fun h=>Tq.ret ?_
  . exact⟨by show(-1:Int)≤n;omega,.inl (by show(-1:Int)<0;omega)⟩
  . have h:=of_decide_eq_false h;exact⟨by show n-(a.length:Int)≤n;omega,.inr (by omega)⟩
theorem szTermS_gv(a:List Tm)(n:Int)(h0:0≤n)(hn:n≤1048576)(ha:a.length≤maxLen):Gv n_laws_szTermS s_laws_szTermS (a,n,()) (fun(r:(Int×Unit)×Unit)=>r.1.1≤n∧(r.1.1<0∨(a.length:Int)≤n)):=by
  have ha:a.length≤9223372036854775807:=ha;refine Gv.of (fun k=>laws_szTermS.F_eq (cl k) k a n) ?_;unfold laws_szTermS.F laws_szTermS.Fm;rw[w64 (by omega) (by omega)];refine Tq.bif (fun h=>Tq.ret ?_) fun h=>Tq.ret ?_
  . exact⟨by show(-1:Int)≤n;omega,.inl (by show(-1:Int)<0;omega)⟩
  . have h:=of_decide_eq_false h;exact⟨by show n-(a.length:Int)≤n;omega,.inr (by omega)⟩
theorem szStmt_gv(x:Sm)(n:Int)(h0:0≤n)(hn:n≤1048576)(h1:x.2.2.1.length≤maxLen)(h2:x.2.2.2.1.length≤maxLen):
    Gv n_laws_szStmt s_laws_szStmt (x,n,()) (fun(r:(Int×Unit)×Unit)=>r.1.1≤n∧(r.1.1<0∨((x.2.2.1.length:Int)≤n∧(x.2.2.2.1.length:Int)≤n))):=by
  refine Gv.of (fun k=>laws_szStmt.F_eq (cl k) k x n) ?_;unfold laws_szStmt.F laws_szStmt.Fm;refine Tq.bind (szTermS_gv x.2.2.1 n h0 hn h1).tq fun(y:(Int×Unit)×Unit) hy=>?_
  obtain⟨hy1,hy2⟩:=hy;refine Tq.bif (fun h=>Tq.ret ⟨by show(-1:Int)≤n;omega,.inl (by show(-1:Int)<0;omega)⟩) fun h=>?_
  have h:¬y.1.1<0:=of_decide_eq_false h;refine Tq.bind (szTermS_gv x.2.2.2.1 y.1.1 (by omega) (by omega) h2).tq fun(z:(Int×Unit)×Unit) hz=>?_
  obtain⟨hz1,hz2⟩:=hz;refine Tq.bif (fun h=>Tq.ret ⟨by show(-1:Int)≤n;omega,.inl (by show(-1:Int)<0;omega)⟩) fun h'=>?_
  have h':¬z.1.1<0:=of_decide_eq_false h';exact Tq.ret ⟨by show z.1.1≤n;omega,.inr ⟨hy2.resolve_left h,by have:=hz2.resolve_left h';omega⟩⟩
theorem szStmtS_loop(a:List Sm)(ha:a.length≤1048576)(he:∀x∈a,x.2.2.1.length≤maxLen∧x.2.2.2.1.length≤maxLen):∀(d j:Nat)(m:Int),a.length-j=d→0≤m→m≤1048576→
    Tq (d+1) (fun k q=>laws_szStmtS.L0 (cl k) k a q m (j:Int)) (fun(r:(Int×Unit)×Unit)=>r.1.1≤m∧(r.1.1<0∨∀(i:Nat)(h:i<a.length),j≤i→a[i].2.2.1.length≤1048576∧a[i].2.2.2.1.length≤1048576))
  | 0,j,m,hd,h0,hm=>by
    refine Tq.succ ?_;show Tq _ (fun k q=>laws_szStmtS.step0 (cl k) k ..) _
    unfold laws_szStmtS.step0;exact Tq.bf (dnlt (by omega)) (Tq.ret ⟨Int.le_refl _,.inr fun i h hji=>by omega⟩)
  | d +1,j,m,hd,h0,hm=>by
    have hj:j<a.length:=by omega
    refine Tq.succ ?_;show Tq _ (fun k q=>laws_szStmtS.step0 (cl k) k ..) _
    unfold laws_szStmtS.step0;obtain⟨e1,e2⟩:=he a[j] (List.getElem_mem hj);refine Tq.bt (dlt hj) (Tq.bt (dle0 j) (Tq.some (lg hj) (Tq.bind (szStmt_gv a[j] m h0 hm e1 e2).tq fun(y:(Int×Unit)×Unit) hy=>?_)));obtain⟨hy1,hy2⟩:=hy;refine Tq.bif (fun h=>Tq.ret ⟨by show(-1:Int)≤m;omega,.inl (by show(-1:Int)<0;omega)⟩) fun h=>?_
    have h:¬y.1.1<0:=of_decide_eq_false h;rw[ws hj (by omega)];refine(szStmtS_loop a ha he d (j+1) y.1.1 (by omega) (by omega) (by omega)).mono fun(r:(Int×Unit)×Unit) hr=>⟨by have:=hr.1;omega,hr.2.imp id fun H i hi hji=>?_⟩
    rcases Nat.lt_or_ge j i with h3|h3
    . exact H i hi h3
    . obtain rfl:i=j:=by omega
      have:=hy2.resolve_left h;omega
theorem szStmtS_gv(a:List Sm)(n:Int)(h0:0≤n)(hn:n≤1048576)(ha:a.length≤maxLen)(he:∀x∈a,x.2.2.1.length≤maxLen∧x.2.2.2.1.length≤maxLen):
    Gv n_laws_szStmtS s_laws_szStmtS (a,n,()) (fun(r:(Int×Unit)×Unit)=>r.1.1≤n∧(r.1.1<0∨(a.length≤1048576∧∀x∈a,x.2.2.1.length≤1048576∧x.2.2.2.1.length≤1048576))):=by
  have ha:a.length≤9223372036854775807:=ha;refine Gv.of (fun k=>laws_szStmtS.F_eq (cl k) k a n) ?_;unfold laws_szStmtS.F laws_szStmtS.Fm;rw[w64 (by omega) (by omega)];refine Tq.bif (fun h=>Tq.ret ⟨by show(-1:Int)≤n;omega,.inl (by show(-1:Int)<0;omega)⟩) fun h=>?_
  have h:=of_decide_eq_false h;refine Tq.diag ((szStmtS_loop a (by omega) he a.length 0 (n-a.length) rfl (by omega) (by omega)).mono fun(r:(Int×Unit)×Unit) hr=>⟨by have:=hr.1;omega,hr.2.imp id fun H=>⟨by omega,fun x hx=>?_⟩⟩);obtain⟨i,hi,rfl⟩:=List.getElem_of_mem hx;exact H i hi (Nat.zero_le _)
def Lens(p:Pg):Prop:=p.2.1.length≤maxLen∧p.2.2.1.length≤maxLen∧p.2.2.2.2.1.length≤maxLen∧p.2.2.2.2.2.1.length≤maxLen∧∀x∈p.2.2.2.2.2.1,x.2.2.1.length≤maxLen∧x.2.2.2.1.length≤maxLen
theorem szProg_gv(p:Pg)(hp:Lens p):Gv n_laws_szProg s_laws_szProg (p,1048576,()) (fun(r:(Int×Unit)×Unit)=>r.1.1<0∨Small p):=by
  obtain⟨h1,h2,h3,h4,h5⟩:=hp;refine Gv.of (fun k=>laws_szProg.F_eq (cl k) k p 1048576) ?_;unfold laws_szProg.F laws_szProg.Fm;refine Tq.bind (szInputS_gv p.2.1 1048576 (by omega) (by omega) h1).tq fun(y:(Int×Unit)×Unit) hy=>?_
  obtain⟨a1,b1⟩:=hy;refine Tq.bif (fun h=>Tq.ret (.inl (by show(-1:Int)<0;omega))) fun h=>?_
  have c1:¬y.1.1<0:=of_decide_eq_false h;refine Tq.bind (szInputS_gv p.2.2.1 y.1.1 (by omega) (by omega) h2).tq fun(z:(Int×Unit)×Unit) hz=>?_
  obtain⟨a2,b2⟩:=hz;refine Tq.bif (fun h=>Tq.ret (.inl (by show(-1:Int)<0;omega))) fun h=>?_
  have c2:¬z.1.1<0:=of_decide_eq_false h;refine Tq.bind (szInt64S_gv p.2.2.2.2.1 z.1.1 (by omega) (by omega) h3).tq fun(u:(Int×Unit)×Unit) hu=>?_
  obtain⟨a3,b3⟩:=hu;refine Tq.bif (fun h=>Tq.ret (.inl (by show(-1:Int)<0;omega))) fun h=>?_
  have c3:¬u.1.1<0:=of_decide_eq_false h;refine Tq.bind (szStmtS_gv p.2.2.2.2.2.1 u.1.1 (by omega) (by omega) h4 h5).tq fun(v:(Int×Unit)×Unit) hv=>?_
  obtain⟨a4,b4⟩:=hv;refine Tq.bif (fun h=>Tq.ret (.inl (by show(-1:Int)<0;omega))) fun h=>?_
  have c4:¬v.1.1<0:=of_decide_eq_false h;have d4:=b4.resolve_left c4;have d1:=b1.resolve_left c1;have d2:=b2.resolve_left c2;have d3:=b3.resolve_left c3;exact Tq.ret (.inr ⟨by omega,by omega,by omega,d4.1,d4.2⟩)
end Go.Proofs.YtjgfofcgmcnblaaGreat.Pf
namespace Go.Proofs.YtjgfofcgmcnblaaGreat.Pf
open Go Go.Pv
theorem eqInput_ans(x:Ip):Ans n_laws_eqInput s_laws_eqInput (x,x,()) ((true,()),()):=by
  refine Gv.ans (Gv.of (fun k=>laws_eqInput.F_eq (cl k) k x x) ?_);unfold laws_eqInput.F laws_eqInput.Fm;exact Tq.bf (bne_self_eq_false _) (Tq.bf (bne_self_eq_false _) (Tq.ret rfl))
theorem eqTerm_ans(x:Tm):Ans n_laws_eqTerm s_laws_eqTerm (x,x,()) ((true,()),()):=by
  refine Gv.ans (Gv.of (fun k=>laws_eqTerm.F_eq (cl k) k x x) ?_);unfold laws_eqTerm.F laws_eqTerm.Fm;exact Tq.bf (bne_self_eq_false _) (Tq.bf (bne_self_eq_false _) (Tq.ret rfl))
theorem eqInt64S_loop(a:List Int)(ha:a.length≤1048576):∀(d j:Nat),a.length-j=d→
    Tq (d+1) (fun k q=>laws_eqInt64S.L0 (cl k) k a a q (j:Int)) (· =((true,()),()))
  | 0,j,hd=>by
    refine Tq.succ ?_;show Tq _ (fun k q=>laws_eqInt64S.step0 (cl k) k ..) _
    unfold laws_eqInt64S.step0;exact Tq.bf (dnlt (by omega)) (Tq.ret rfl)
  | d+1,j,hd=>by
    have hj:j<a.length:=by omega
    refine Tq.succ ?_;show Tq _ (fun k q=>laws_eqInt64S.step0 (cl k) k ..) _
    unfold laws_eqInt64S.step0;refine Tq.bt (dlt hj) (Tq.bt (dle0 j) (Tq.some (lg hj) (Tq.bt (dle0 j) (Tq.some (lg hj) (Tq.bf (bne_self_eq_false _) ?_)))));rw[ws hj (by omega)];exact eqInt64S_loop a ha d (j+1) (by omega)
theorem eqInt64S_ans(a:List Int)(ha:a.length≤1048576):Ans n_laws_eqInt64S s_laws_eqInt64S (a,a,()) ((true,()),()):=by
  refine Gv.ans (Gv.of (fun k=>laws_eqInt64S.F_eq (cl k) k a a) ?_);unfold laws_eqInt64S.F laws_eqInt64S.Fm;exact Tq.bf (bne_self_eq_false _) (Tq.diag (eqInt64S_loop a ha a.length 0 rfl))
theorem eqInputS_loop(a:List Ip)(ha:a.length≤1048576):∀(d j:Nat),a.length-j=d→
    Tq (d+1) (fun k q=>laws_eqInputS.L0 (cl k) k a a q (j:Int)) (· =((true,()),()))
  | 0,j,hd=>by
    refine Tq.succ ?_;show Tq _ (fun k q=>laws_eqInputS.step0 (cl k) k ..) _
    unfold laws_eqInputS.step0;exact Tq.bf (dnlt (by omega)) (Tq.ret rfl)
  | d+1,j,hd=>by
    have hj:j<a.length:=by omega
    refine Tq.succ ?_;show Tq _ (fun k q=>laws_eqInputS.step0 (cl k) k ..) _
    unfold laws_eqInputS.step0;refine Tq.bt (dlt hj) (Tq.bt (dle0 j) (Tq.some (lg hj) (Tq.bt (dle0 j) (Tq.some (lg hj) (Tq.bind (eqInput_ans a[j]).tq fun y hy=>?_)))));subst hy;refine Tq.bf rfl ?_;rw[ws hj (by omega)];exact eqInputS_loop a ha d (j+1) (by omega)
theorem eqInputS_ans(a:List Ip)(ha:a.length≤1048576):Ans n_laws_eqInputS s_laws_eqInputS (a,a,()) ((true,()),()):=by
  refine Gv.ans (Gv.of (fun k=>laws_eqInputS.F_eq (cl k) k a a) ?_);unfold laws_eqInputS.F laws_eqInputS.Fm;exact Tq.bf (bne_self_eq_false _) (Tq.diag (eqInputS_loop a ha a.length 0 rfl))
theorem eqTermS_loop(a:List Tm)(ha:a.length≤1048576):∀(d j:Nat),a.length-j=d→
    Tq (d+1) (fun k q=>laws_eqTermS.L0 (cl k) k a a q (j:Int)) (· =((true,()),()))
  | 0,j,hd=>by
    refine Tq.succ ?_;show Tq _ (fun k q=>laws_eqTermS.step0 (cl k) k ..) _
    unfold laws_eqTermS.step0;exact Tq.bf (dnlt (by omega)) (Tq.ret rfl)
  | d+1,j,hd=>by
    have hj:j<a.length:=by omega
    refine Tq.succ ?_;show Tq _ (fun k q=>laws_eqTermS.step0 (cl k) k ..) _
    unfold laws_eqTermS.step0;refine Tq.bt (dlt hj) (Tq.bt (dle0 j) (Tq.some (lg hj) (Tq.bt (dle0 j) (Tq.some (lg hj) (Tq.bind (eqTerm_ans a[j]).tq fun y hy=>?_)))));subst hy;refine Tq.bf rfl ?_;rw[ws hj (by omega)];exact eqTermS_loop a ha d (j+1) (by omega)
theorem eqTermS_ans(a:List Tm)(ha:a.length≤1048576):Ans n_laws_eqTermS s_laws_eqTermS (a,a,()) ((true,()),()):=by
  refine Gv.ans (Gv.of (fun k=>laws_eqTermS.F_eq (cl k) k a a) ?_);unfold laws_eqTermS.F laws_eqTermS.Fm;exact Tq.bf (bne_self_eq_false _) (Tq.diag (eqTermS_loop a ha a.length 0 rfl))
theorem eqStmt_ans(x:Sm)(h1:x.2.2.1.length≤1048576)(h2:x.2.2.2.1.length≤1048576):Ans n_laws_eqStmt s_laws_eqStmt (x,x,()) ((true,()),()):=by
  refine Gv.ans (Gv.of (fun k=>laws_eqStmt.F_eq (cl k) k x x) ?_);unfold laws_eqStmt.F laws_eqStmt.Fm;refine Tq.bf (bne_self_eq_false _) (Tq.bf (bne_self_eq_false _) (Tq.bind (eqTermS_ans x.2.2.1 h1).tq fun y hy=>?_));subst hy;refine Tq.bf rfl (Tq.bind (eqTermS_ans x.2.2.2.1 h2).tq fun y hy=>?_);subst hy;exact Tq.bf rfl (Tq.ret rfl)
theorem eqStmtS_loop(a:List Sm)(ha:a.length≤1048576)(he:∀x∈a,Ans n_laws_eqStmt s_laws_eqStmt (x,x,()) ((true,()),())):∀(d j:Nat),a.length-j=d→
    Tq (d+1) (fun k q=>laws_eqStmtS.L0 (cl k) k a a q (j:Int)) (· =((true,()),()))
  | 0,j,hd=>by
    refine Tq.succ ?_;show Tq _ (fun k q=>laws_eqStmtS.step0 (cl k) k ..) _
    unfold laws_eqStmtS.step0;exact Tq.bf (dnlt (by omega)) (Tq.ret rfl)
  | d+1,j,hd=>by
    have hj:j<a.length:=by omega
    refine Tq.succ ?_;show Tq _ (fun k q=>laws_eqStmtS.step0 (cl k) k ..) _
    unfold laws_eqStmtS.step0;refine Tq.bt (dlt hj) (Tq.bt (dle0 j) (Tq.some (lg hj) (Tq.bt (dle0 j) (Tq.some (lg hj) (Tq.bind (he a[j] (List.getElem_mem hj)).tq fun y hy=>?_)))));subst hy;refine Tq.bf rfl ?_;rw[ws hj (by omega)];exact eqStmtS_loop a ha he d (j+1) (by omega)
theorem eqStmtS_ans(a:List Sm)(ha:a.length≤1048576)(he:∀x∈a,Ans n_laws_eqStmt s_laws_eqStmt (x,x,()) ((true,()),())):Ans n_laws_eqStmtS s_laws_eqStmtS (a,a,()) ((true,()),()):=by
  refine Gv.ans (Gv.of (fun k=>laws_eqStmtS.F_eq (cl k) k a a) ?_);unfold laws_eqStmtS.F laws_eqStmtS.Fm;exact Tq.bf (bne_self_eq_false _) (Tq.diag (eqStmtS_loop a ha he a.length 0 rfl))
theorem eqProg_ans(p:Pg)(h:Small p):Ans n_laws_eqProg s_laws_eqProg (p,p,()) ((true,()),()):=by
  obtain⟨h1,h2,h3,h4,h5⟩:=h;refine Gv.ans (Gv.of (fun k=>laws_eqProg.F_eq (cl k) k p p) ?_);unfold laws_eqProg.F laws_eqProg.Fm;refine Tq.bf (bne_self_eq_false _) (Tq.bind (eqInputS_ans p.2.1 h1).tq fun y hy=>?_);subst hy;refine Tq.bf rfl (Tq.bind (eqInputS_ans p.2.2.1 h2).tq fun y hy=>?_);subst hy;refine Tq.bf rfl (Tq.bf (bne_self_eq_false _) (Tq.bind (eqInt64S_ans p.2.2.2.2.1 h3).tq fun y hy=>?_));subst hy;refine Tq.bf rfl (Tq.bind (eqStmtS_ans p.2.2.2.2.2.1 h4 fun x hx=>eqStmt_ans x (h5 x hx).1 (h5 x hx).2).tq fun y hy=>?_);subst hy;exact Tq.bf rfl (Tq.ret rfl)
end Go.Proofs.YtjgfofcgmcnblaaGreat.Pf
namespace Go.Proofs.YtjgfofcgmcnblaaGreat.Pf
open Go Go.Pv IntKind
abbrev Y9_0:Type:=(Int×((List (Int×(Int×Unit)))×((List (Int×(Int×Unit)))×(Int×((List Int)×((List (Int×(Int×((List (Int×(Int×Unit)))×((List (Int×(Int×Unit)))×Unit)))))×Unit))))))
abbrev Y9_1:Type:=((List (Int×(Int×((List (Int×(Int×Unit)))×((List (Int×(Int×Unit)))×Unit))))))
abbrev Y9_2:Type:=(List (Int×(Int×((List (Int×(Int×Unit)))×((List (Int×(Int×Unit)))×Unit)))))
abbrev Y9_3:Type:=(Int×Int×List (Int×Int×Unit)×List (Int×Int×Unit)×Unit)
abbrev Y9_4:Type:=((Int×Unit)×List (Int×Int×Unit)×Unit)
abbrev Y9_5:Type:=((Int)×(Int)×((List (Int×(Int×Unit)))))
abbrev Y9_6:Type:=((List (Int×(Int×Unit))))
abbrev Y9_7:Type:=(List (Int×(Int×Unit)))
namespace laws_markInt64S
abbrev R:=((Int×Unit)×((List Int)×Unit))
def S0(v0_0:Int)(v0_1:Int)(v0_2:(List Int)):St:=⟨mkS 19 [(0,.ref [500000]),(1,.v tI v0_0),(5,.v tI v0_1)],[([500000],.list 2 tI v0_2)]⟩
def step0(call:Cl)(k:Nat)(r0:(Int)→(Int)→((List Int))→Option R)(v0_0:Int)(v0_1:Int)(v0_2:(List Int)):Option R:=bif decide (v0_1<(↑v0_2.length:Int))then bif decide (0≤v0_1)&&decide (v0_1.toNat<v0_2.length)then(lget v0_2 v0_1.toNat).bind fun(y0:Int)=>r0 (i64.wrap (v0_0+1)) (i64.wrap (v0_1+1)) (v0_2.set v0_1.toNat v0_0)else none else some ((v0_0,()),v0_2,())
def L0(call:Cl)(k:Nat):Nat→(Int)→(Int)→((List Int))→Option R|0,_,_,_=>none|n+1,v0_0,v0_1,v0_2=>step0 call k (L0 call k n) v0_0 v0_1 v0_2
def Fm(call:Cl)(k:Nat)(l0:(Int)→(Int)→((List Int))→Option R)(a0:(List Int))(a1:Int):Option R:=l0 a1 0 a0
def F(call:Cl)(k:Nat)(a0:(List Int))(a1:Int):Option R:=Fm call k (fun v0_0_ v0_1_ v0_2_=>L0 call k k v0_0_ v0_1_ v0_2_) a0 a1
theorem L0_eq(call:Cl)(k:Nat)(J:Nat→St→Option R)(a0:(List Int))(a1:Int):∀(n:Nat)(x:((Int)×(Int)×((List Int)))),siteI E call n_laws_markInt64S k s_laws_markInt64S (a0,a1,()) J 0 n (S0 x.1 x.2.1 x.2.2)=L0 call k n x.1 x.2.1 x.2.2:=by
  refine loop_eq (s:=s_laws_markInt64S) (fun x=>S0 x.1 x.2.1 x.2.2) (fun n x=>L0 call k n x.1 x.2.1 x.2.2) (fun r x=>step0 call k (fun v0_0 v0_1 v0_2=>r (v0_0,v0_1,v0_2)) x.1 x.2.1 x.2.2) (fun _=>rfl) (fun _ _=>rfl) fun J0 x=>?_
  kernel_rfl
theorem F_eq(call:Cl)(k:Nat)(a0:(List Int))(a1:Int):bodyK E call n_laws_markInt64S k s_laws_markInt64S (a0,a1,())=F call k a0 a1:=by
  exact Eq.trans (b:=Fm call k (fun v0_0_ v0_1_ v0_2_=>siteI E call n_laws_markInt64S k s_laws_markInt64S (a0,a1,()) (fun _ _=>none) 0 k (S0 v0_0_ v0_1_ v0_2_)) a0 a1) (by kernel_rfl) (congrArg (fun l=>Fm call k l a0 a1) (funext fun v0_0_=>funext fun v0_1_=>funext fun v0_2_=>L0_eq call k (fun _ _=>none) a0 a1 k (v0_0_,v0_1_,v0_2_)))
end laws_markInt64S
namespace laws_markInputS
abbrev R:=((Int×Unit)×((List (Int×(Int×Unit)))×Unit))
def S0(v0_0:Int)(v0_1:Int)(v0_2:Y9_7):St:=⟨mkS 27 [(0,.ref [500000]),(1,.v tI v0_0),(5,.v tI v0_1)],[([500000],.list 59 tTm v0_2)]⟩
def step0(call:Cl)(k:Nat)(r0:(Int)→(Int)→Y9_6→Option R)(v0_0:Int)(v0_1:Int)(v0_2:Y9_7):Option R:=bif decide (v0_1<(↑v0_2.length:Int))then bif decide (0≤v0_1)&&decide (v0_1.toNat<v0_2.length)then(lget v0_2 v0_1.toNat).bind fun(y0:Int×Int×Unit)=>bif decide (0≤v0_1)&&decide (v0_1.toNat<(v0_2.set v0_1.toNat (v0_0,y0.2)).length)then(lget (v0_2.set v0_1.toNat (v0_0,y0.2)) v0_1.toNat).bind fun(y1:Int×Int×Unit)=>r0 (i64.wrap (i64.wrap (v0_0+1)+1)) (i64.wrap (v0_1+1)) ((v0_2.set v0_1.toNat (v0_0,y0.2)).set v0_1.toNat (y1.1,i64.wrap (v0_0+1),y1.2.2))else none else none else some ((v0_0,()),v0_2,())
def L0(call:Cl)(k:Nat):Nat→(Int)→(Int)→Y9_6→Option R|0,_,_,_=>none|n+1,v0_0,v0_1,v0_2=>step0 call k (L0 call k n) v0_0 v0_1 v0_2
def Fm(call:Cl)(k:Nat)(l0:(Int)→(Int)→Y9_6→Option R)(a0:Y9_7)(a1:Int):Option R:=l0 a1 0 a0
def F(call:Cl)(k:Nat)(a0:Y9_7)(a1:Int):Option R:=Fm call k (fun v0_0_ v0_1_ v0_2_=>L0 call k k v0_0_ v0_1_ v0_2_) a0 a1
theorem L0_eq(call:Cl)(k:Nat)(J:Nat→St→Option R)(a0:Y9_7)(a1:Int):∀(n:Nat)(x:Y9_5),siteI E call n_laws_markInputS k s_laws_markInputS (a0,a1,()) J 0 n (S0 x.1 x.2.1 x.2.2)=L0 call k n x.1 x.2.1 x.2.2:=by
  refine loop_eq (s:=s_laws_markInputS) (fun x=>S0 x.1 x.2.1 x.2.2) (fun n x=>L0 call k n x.1 x.2.1 x.2.2) (fun r x=>step0 call k (fun v0_0 v0_1 v0_2=>r (v0_0,v0_1,v0_2)) x.1 x.2.1 x.2.2) (fun _=>rfl) (fun _ _=>rfl) fun J0 x=>?_
  kernel_rfl
theorem F_eq(call:Cl)(k:Nat)(a0:Y9_7)(a1:Int):bodyK E call n_laws_markInputS k s_laws_markInputS (a0,a1,())=F call k a0 a1:=by
  exact Eq.trans (b:=Fm call k (fun v0_0_ v0_1_ v0_2_=>siteI E call n_laws_markInputS k s_laws_markInputS (a0,a1,()) (fun _ _=>none) 0 k (S0 v0_0_ v0_1_ v0_2_)) a0 a1) (by kernel_rfl) (congrArg (fun l=>Fm call k l a0 a1) (funext fun v0_0_=>funext fun v0_1_=>funext fun v0_2_=>L0_eq call k (fun _ _=>none) a0 a1 k (v0_0_,v0_1_,v0_2_)))
end laws_markInputS
namespace laws_markTermS
abbrev R:=((Int×Unit)×((List (Int×(Int×Unit)))×Unit))
def S0(v0_0:Int)(v0_1:Int)(v0_2:Y9_7):St:=⟨mkS 27 [(0,.ref [500000]),(1,.v tI v0_0),(5,.v tI v0_1)],[([500000],.list 184 tTm v0_2)]⟩
def step0(call:Cl)(k:Nat)(r0:(Int)→(Int)→Y9_6→Option R)(v0_0:Int)(v0_1:Int)(v0_2:Y9_7):Option R:=bif decide (v0_1<(↑v0_2.length:Int))then bif decide (0≤v0_1)&&decide (v0_1.toNat<v0_2.length)then(lget v0_2 v0_1.toNat).bind fun(y0:Int×Int×Unit)=>bif decide (0≤v0_1)&&decide (v0_1.toNat<(v0_2.set v0_1.toNat (v0_0,y0.2)).length)then(lget (v0_2.set v0_1.toNat (v0_0,y0.2)) v0_1.toNat).bind fun(y1:Int×Int×Unit)=>r0 (i64.wrap (i64.wrap (v0_0+1)+1)) (i64.wrap (v0_1+1)) ((v0_2.set v0_1.toNat (v0_0,y0.2)).set v0_1.toNat (y1.1,i64.wrap (v0_0+1),y1.2.2))else none else none else some ((v0_0,()),v0_2,())
def L0(call:Cl)(k:Nat):Nat→(Int)→(Int)→Y9_6→Option R|0,_,_,_=>none|n+1,v0_0,v0_1,v0_2=>step0 call k (L0 call k n) v0_0 v0_1 v0_2
def Fm(call:Cl)(k:Nat)(l0:(Int)→(Int)→Y9_6→Option R)(a0:Y9_7)(a1:Int):Option R:=l0 a1 0 a0
def F(call:Cl)(k:Nat)(a0:Y9_7)(a1:Int):Option R:=Fm call k (fun v0_0_ v0_1_ v0_2_=>L0 call k k v0_0_ v0_1_ v0_2_) a0 a1
theorem L0_eq(call:Cl)(k:Nat)(J:Nat→St→Option R)(a0:Y9_7)(a1:Int):∀(n:Nat)(x:Y9_5),siteI E call n_laws_markTermS k s_laws_markTermS (a0,a1,()) J 0 n (S0 x.1 x.2.1 x.2.2)=L0 call k n x.1 x.2.1 x.2.2:=by
  refine loop_eq (s:=s_laws_markTermS) (fun x=>S0 x.1 x.2.1 x.2.2) (fun n x=>L0 call k n x.1 x.2.1 x.2.2) (fun r x=>step0 call k (fun v0_0 v0_1 v0_2=>r (v0_0,v0_1,v0_2)) x.1 x.2.1 x.2.2) (fun _=>rfl) (fun _ _=>rfl) fun J0 x=>?_
  kernel_rfl
theorem F_eq(call:Cl)(k:Nat)(a0:Y9_7)(a1:Int):bodyK E call n_laws_markTermS k s_laws_markTermS (a0,a1,())=F call k a0 a1:=by
  exact Eq.trans (b:=Fm call k (fun v0_0_ v0_1_ v0_2_=>siteI E call n_laws_markTermS k s_laws_markTermS (a0,a1,()) (fun _ _=>none) 0 k (S0 v0_0_ v0_1_ v0_2_)) a0 a1) (by kernel_rfl) (congrArg (fun l=>Fm call k l a0 a1) (funext fun v0_0_=>funext fun v0_1_=>funext fun v0_2_=>L0_eq call k (fun _ _=>none) a0 a1 k (v0_0_,v0_1_,v0_2_)))
end laws_markTermS
namespace laws_markStmtS
abbrev R:=((Int×Unit)×((List (Int×(Int×((List (Int×(Int×Unit)))×((List (Int×(Int×Unit)))×Unit)))))×Unit))
def S0(v0_0:Int)(v0_1:Int)(v0_2:Y9_2):St:=⟨mkS 41 [(0,.ref [500000]),(1,.v tI v0_0),(5,.v tI v0_1)],[([500000],.list 114 (.pair tI (.pair tI (.pair (.own 184 tTm) (.pair (.own 184 tTm) .unit)))) v0_2)]⟩
def step0(call:Cl)(k:Nat)(r0:(Int)→(Int)→Y9_1→Option R)(v0_0:Int)(v0_1:Int)(v0_2:Y9_2):Option R:=bif decide (v0_1<(↑v0_2.length:Int))then bif decide (0≤v0_1)&&decide (v0_1.toNat<v0_2.length)then(lget v0_2 v0_1.toNat).bind fun(y0:Y9_3)=>bif decide (0≤v0_1)&&decide (v0_1.toNat<(v0_2.set v0_1.toNat (v0_0,y0.2)).length)then(lget (v0_2.set v0_1.toNat (v0_0,y0.2)) v0_1.toNat).bind fun(y1:Y9_3)=>bif decide (0≤v0_1)&&decide (v0_1.toNat<((v0_2.set v0_1.toNat (v0_0,y0.2)).set v0_1.toNat (y1.1,i64.wrap (v0_0+1),y1.2.2)).length)then(lget ((v0_2.set v0_1.toNat (v0_0,y0.2)).set v0_1.toNat (y1.1,i64.wrap (v0_0+1),y1.2.2)) v0_1.toNat).bind fun(y2:Y9_3)=>(call 182 s_laws_markTermS (y2.2.2.1,i64.wrap (i64.wrap (v0_0+1)+1),())).bind fun(y3:Y9_4)=>(lget ((v0_2.set v0_1.toNat (v0_0,y0.2)).set v0_1.toNat (y1.1,i64.wrap (v0_0+1),y1.2.2)) v0_1.toNat).bind fun(y4:Y9_3)=>bif decide (0≤v0_1)&&decide (v0_1.toNat<(((v0_2.set v0_1.toNat (v0_0,y0.2)).set v0_1.toNat (y1.1,i64.wrap (v0_0+1),y1.2.2)).set v0_1.toNat (y4.1,y4.2.1,y3.2.1,y4.2.2.2)).length)then(lget (((v0_2.set v0_1.toNat (v0_0,y0.2)).set v0_1.toNat (y1.1,i64.wrap (v0_0+1),y1.2.2)).set v0_1.toNat (y4.1,y4.2.1,y3.2.1,y4.2.2.2)) v0_1.toNat).bind fun(y5:Y9_3)=>(call 182 s_laws_markTermS (y5.2.2.2.1,y3.1.1,())).bind fun(y6:Y9_4)=>(lget (((v0_2.set v0_1.toNat (v0_0,y0.2)).set v0_1.toNat (y1.1,i64.wrap (v0_0+1),y1.2.2)).set v0_1.toNat (y4.1,y4.2.1,y3.2.1,y4.2.2.2)) v0_1.toNat).bind fun(y7:Y9_3)=>r0 y6.1.1 (i64.wrap (v0_1+1)) ((((v0_2.set v0_1.toNat (v0_0,y0.2)).set v0_1.toNat (y1.1,i64.wrap (v0_0+1),y1.2.2)).set v0_1.toNat (y4.1,y4.2.1,y3.2.1,y4.2.2.2)).set v0_1.toNat (y7.1,y7.2.1,y7.2.2.1,y6.2.1,y7.2.2.2.2))else none else none else none else none else some ((v0_0,()),v0_2,())
def L0(call:Cl)(k:Nat):Nat→(Int)→(Int)→Y9_1→Option R|0,_,_,_=>none|n+1,v0_0,v0_1,v0_2=>step0 call k (L0 call k n) v0_0 v0_1 v0_2
def Fm(call:Cl)(k:Nat)(l0:(Int)→(Int)→Y9_1→Option R)(a0:Y9_2)(a1:Int):Option R:=l0 a1 0 a0
def F(call:Cl)(k:Nat)(a0:Y9_2)(a1:Int):Option R:=Fm call k (fun v0_0_ v0_1_ v0_2_=>L0 call k k v0_0_ v0_1_ v0_2_) a0 a1
theorem L0_eq(call:Cl)(k:Nat)(J:Nat→St→Option R)(a0:Y9_2)(a1:Int):∀(n:Nat)(x:((Int)×(Int)×Y9_1)),siteI E call n_laws_markStmtS k s_laws_markStmtS (a0,a1,()) J 0 n (S0 x.1 x.2.1 x.2.2)=L0 call k n x.1 x.2.1 x.2.2:=by
  refine loop_eq (s:=s_laws_markStmtS) (fun x=>S0 x.1 x.2.1 x.2.2) (fun n x=>L0 call k n x.1 x.2.1 x.2.2) (fun r x=>step0 call k (fun v0_0 v0_1 v0_2=>r (v0_0,v0_1,v0_2)) x.1 x.2.1 x.2.2) (fun _=>rfl) (fun _ _=>rfl) fun J0 x=>?_
  kernel_rfl
theorem F_eq(call:Cl)(k:Nat)(a0:Y9_2)(a1:Int):bodyK E call n_laws_markStmtS k s_laws_markStmtS (a0,a1,())=F call k a0 a1:=by
  exact Eq.trans (b:=Fm call k (fun v0_0_ v0_1_ v0_2_=>siteI E call n_laws_markStmtS k s_laws_markStmtS (a0,a1,()) (fun _ _=>none) 0 k (S0 v0_0_ v0_1_ v0_2_)) a0 a1) (by kernel_rfl) (congrArg (fun l=>Fm call k l a0 a1) (funext fun v0_0_=>funext fun v0_1_=>funext fun v0_2_=>L0_eq call k (fun _ _=>none) a0 a1 k (v0_0_,v0_1_,v0_2_)))
end laws_markStmtS
namespace laws_markProg
abbrev R:=((Int×Unit)×((Int×((List (Int×(Int×Unit)))×((List (Int×(Int×Unit)))×(Int×((List Int)×((List (Int×(Int×((List (Int×(Int×Unit)))×((List (Int×(Int×Unit)))×Unit)))))×Unit))))))×Unit))
def Fm(call:Cl)(k:Nat)(a0:Y9_0)(a1:Int):Option R:=(call 136 s_laws_markInputS (a0.2.1,a1,())).bind fun(y0:Y9_4)=>(call 136 s_laws_markInputS (a0.2.2.1,y0.1.1,())).bind fun(y1:Y9_4)=>(call 76 s_laws_markInt64S (a0.2.2.2.2.1,y1.1.1,())).bind fun(y2:((Int×Unit)×List Int×Unit))=>(call 137 s_laws_markStmtS (a0.2.2.2.2.2.1,y2.1.1,())).bind fun(y3:((Int×Unit)×List Y9_3×Unit))=>some ((y3.1.1,()),(a0.1,y0.2.1,y1.2.1,a0.2.2.2.1,y2.2.1,y3.2.1,a0.2.2.2.2.2.2),())
def F(call:Cl)(k:Nat)(a0:Y9_0)(a1:Int):Option R:=Fm call k a0 a1
theorem F_eq(call:Cl)(k:Nat)(a0:Y9_0)(a1:Int):bodyK E call n_laws_markProg k s_laws_markProg (a0,a1,())=F call k a0 a1:=by kernel_rfl
end laws_markProg
namespace laws_heldInt64S
abbrev R:=((Int×Unit)×Unit)
def S0(a0:(List Int))(v0_1:Int)(v0_2:Int):St:=⟨mkS 21 [(0,.v (.slc tI) (a0)),(1,.v tI v0_1),(5,.v tI v0_2)],[]⟩
def step0(call:Cl)(k:Nat)(a0:(List Int))(r0:(Int)→(Int)→Option R)(v0_1:Int)(v0_2:Int):Option R:=bif decide (v0_2<(↑a0.length:Int))then bif decide (0≤v0_2)then(lget a0 v0_2.toNat).bind fun(y0:Int)=>bif y0 !=v0_1 then some (((-1),()),())else r0 (i64.wrap (v0_1+1)) (i64.wrap (v0_2+1))else none else some ((v0_1,()),())
def L0(call:Cl)(k:Nat)(a0:(List Int)):Nat→(Int)→(Int)→Option R|0,_,_=>none|n+1,v0_1,v0_2=>step0 call k a0 (L0 call k a0 n) v0_1 v0_2
def Fm(call:Cl)(k:Nat)(l0:((List Int))→(Int)→(Int)→Option R)(a0:(List Int))(a1:Int):Option R:=l0 a0 a1 0
def F(call:Cl)(k:Nat)(a0:(List Int))(a1:Int):Option R:=Fm call k (fun a0_ v0_1_ v0_2_=>L0 call k a0_ k v0_1_ v0_2_) a0 a1
theorem L0_eq(call:Cl)(k:Nat)(J:Nat→St→Option R)(a0:(List Int))(a1:Int):∀(n:Nat)(x:((Int)×(Int))),siteI E call n_laws_heldInt64S k s_laws_heldInt64S (a0,a1,()) J 0 n (S0 a0 x.1 x.2)=L0 call k a0 n x.1 x.2:=by
  refine loop_eq (s:=s_laws_heldInt64S) (fun x=>S0 a0 x.1 x.2) (fun n x=>L0 call k a0 n x.1 x.2) (fun r x=>step0 call k a0 (fun v0_1 v0_2=>r (v0_1,v0_2)) x.1 x.2) (fun _=>rfl) (fun _ _=>rfl) fun J0 x=>?_
  kernel_rfl
theorem F_eq(call:Cl)(k:Nat)(a0:(List Int))(a1:Int):bodyK E call n_laws_heldInt64S k s_laws_heldInt64S (a0,a1,())=F call k a0 a1:=by
  exact Eq.trans (b:=Fm call k (fun a0 v0_1_ v0_2_=>siteI E call n_laws_heldInt64S k s_laws_heldInt64S (a0,a1,()) (fun _ _=>none) 0 k (S0 a0 v0_1_ v0_2_)) a0 a1) (by kernel_rfl) (congrArg (fun l=>Fm call k l a0 a1) (funext fun a0=>funext fun v0_1_=>funext fun v0_2_=>L0_eq call k (fun _ _=>none) a0 a1 k (v0_1_,v0_2_)))
end laws_heldInt64S
end Go.Proofs.YtjgfofcgmcnblaaGreat.Pf
namespace Go.Proofs.YtjgfofcgmcnblaaGreat.Pf
open Go Go.Pv
def Mk(l:List Int)(k:Int):Prop:=∀(i:Nat)(h:i<l.length),l[i]=k+i
abbrev R1:=(Int×Unit)×(List Int×Unit)
theorem mark_loop(m:Int)(hm:0≤m)(hm2:m≤1125899906842624):∀(d j:Nat)(l:List Int),l.length-j=d→j≤l.length→l.length≤1048576→(∀(i:Nat)(h:i<l.length),i<j→l[i]=m+i)→
    Tq (d+1) (fun k q=>laws_markInt64S.L0 (cl k) k q (m+j) (j:Int) l) (fun(r:R1)=>∃l',r=((m+l.length,()),l',())∧l'.length=l.length∧Mk l' m):=by
  intro d
  induction d with
  | zero=>
    intro j l hd hj hl H;obtain rfl:j=l.length:=by omega
    refine Tq.succ ?_;show Tq _ (fun k q=>laws_markInt64S.step0 (cl k) k ..) _
    unfold laws_markInt64S.step0;exact Tq.bf (dnlt (Nat.le_refl _)) (Tq.ret ⟨l,rfl,rfl,fun i h=>H i h h⟩)
  | succ d ih=>
    intro j l hd hj hl H;have hj:j<l.length:=by omega
    refine Tq.succ ?_;show Tq _ (fun k q=>laws_markInt64S.step0 (cl k) k ..) _
    unfold laws_markInt64S.step0;refine Tq.bt (dlt hj) (Tq.bt (idx_ok hj) (Tq.some (lg hj) ?_));rw[ws hj (by omega),w64 (by omega) (by omega),Int.toNat_natCast,show m+(j:Int)+1=m+((j+1:Nat):Int) by omega];have:=ih (j+1) (l.set j (m+j)) (by rw[List.length_set];omega) (by rw[List.length_set];omega) (by rw[List.length_set];exact hl) (fun i h hi=>by
      rcases Nat.lt_or_ge i j with h1|h1
      . rw[List.getElem_set_ne (by omega)];exact H i (by rw[List.length_set]at h;exact h) h1
      . obtain rfl:i=j:=by omega
        rw[List.getElem_set_self])
    rw[List.length_set]at this;exact this
theorem mark_gv(l:List Int)(m:Int)(hm:0≤m)(hm2:m≤1125899906842624)(hl:l.length≤1048576):Gv n_laws_markInt64S s_laws_markInt64S (l,m,()) (fun(r:R1)=>∃l',r=((m+l.length,()),l',())∧l'.length=l.length∧Mk l' m):=by
  refine Gv.of (fun k=>laws_markInt64S.F_eq (cl k) k l m) ?_;unfold laws_markInt64S.F laws_markInt64S.Fm;have:=mark_loop m hm hm2 l.length 0 l rfl (Nat.zero_le _) hl (fun i h hi=>by omega);rw[show m+((0:Nat):Int)=m by omega]at this;exact Tq.diag this
theorem held_loop(l:List Int)(m:Int)(hm:0≤m)(hm2:m≤1125899906842624)(hl:l.length≤1048576)(h:Mk l m):∀(d j:Nat),l.length-j=d→j≤l.length→
    Tq (d+1) (fun k q=>laws_heldInt64S.L0 (cl k) k l q (m+j) (j:Int)) (· =((m+l.length,()),())):=by
  intro d
  induction d with
  | zero=>
    intro j hd hj;obtain rfl:j=l.length:=by omega
    refine Tq.succ ?_;show Tq _ (fun k q=>laws_heldInt64S.step0 (cl k) k ..) _
    unfold laws_heldInt64S.step0;exact Tq.bf (dnlt (Nat.le_refl _)) (Tq.ret rfl)
  | succ d ih=>
    intro j hd hj;have hj:j<l.length:=by omega
    refine Tq.succ ?_;show Tq _ (fun k q=>laws_heldInt64S.step0 (cl k) k ..) _
    unfold laws_heldInt64S.step0;refine Tq.bt (dlt hj) (Tq.bt (dle0 j) (Tq.some (lg hj) (Tq.bf (bne_eq_false_iff_eq.2 (h j hj)) ?_)));rw[ws hj (by omega),w64 (by omega) (by omega),show m+(j:Int)+1=m+((j+1:Nat):Int) by omega];exact ih (j+1) (by omega) (by omega)
theorem held_ans(l:List Int)(m:Int)(hm:0≤m)(hm2:m≤1125899906842624)(hl:l.length≤1048576)(h:Mk l m):Ans n_laws_heldInt64S s_laws_heldInt64S (l,m,()) ((m+l.length,()),()):=by
  refine Gv.ans (Gv.of (fun k=>laws_heldInt64S.F_eq (cl k) k l m) ?_);unfold laws_heldInt64S.F laws_heldInt64S.Fm;have:=held_loop l m hm hm2 hl h l.length 0 rfl (Nat.zero_le _);rw[show m+((0:Nat):Int)=m by omega]at this;exact Tq.diag this
abbrev R3:=(Int×Unit)×(List Tm×Unit)
theorem lset {α:Type}{l:List α}{j:Nat}{a:α}(hj:j<l.length):lget (l.set j a) j=some a:=by
  unfold lget;exact List.getElem?_set_self hj
theorem idx2 {j n:Nat}(h:j<n):(decide ((0:Int)≤(j:Int))&&decide (j<n))=true:=by
  rw[dle0,decide_eq_true h];rfl
theorem markI_loop:∀(d j:Nat)(l:List Ip)(z:Int),l.length-j=d→l.length≤1048576→0≤z→z+2*d≤1125899906842624→
    Tq (d+1) (fun k q=>laws_markInputS.L0 (cl k) k q z (j:Int) l) (fun(r:R3)=>∃l',r=((z+2*d,()),l',())∧l'.length=l.length):=by
  intro d
  induction d with
  | zero=>
    intro j l z hd hl h0 hz;refine Tq.succ ?_;show Tq _ (fun k q=>laws_markInputS.step0 (cl k) k ..) _
    unfold laws_markInputS.step0;exact Tq.bf (dnlt (by omega)) (Tq.ret ⟨l,by rw[show z+2*((0:Nat):Int)=z by omega],rfl⟩)
  | succ d ih=>
    intro j l z hd hl h0 hz;have hj:j<l.length:=by omega
    refine Tq.succ ?_;show Tq _ (fun k q=>laws_markInputS.step0 (cl k) k ..) _
    unfold laws_markInputS.step0;rw[Int.toNat_natCast];refine Tq.bt (dlt hj) (Tq.bt (idx2 hj) (Tq.some (lgn hj) (Tq.bt (idx2 (by rw[List.length_set];exact hj)) (Tq.some (lset hj) ?_))));rw[ws hj (by omega),w64 (x:=z+1) (by omega) (by omega),w64 (by omega) (by omega)];refine(ih (j+1) _ (z+1+1) (by rw[List.length_set,List.length_set];omega) (by rw[List.length_set,List.length_set];exact hl) (by omega) (by omega)).mono ?_;rintro r ⟨l',rfl,h⟩;rw[List.length_set,List.length_set]at h;exact⟨l',by rw[show z+1+1+2*(d:Int)=z+2*((d+1:Nat):Int) by omega],h⟩
theorem markI_gv(l:List Ip)(z:Int)(hl:l.length≤1048576)(h0:0≤z)(hz:z≤562949953421312):Gv n_laws_markInputS s_laws_markInputS (l,z,()) (fun(r:R3)=>∃l',r=((z+2*(l.length:Int),()),l',())∧l'.length=l.length):=by
  refine Gv.of (fun k=>laws_markInputS.F_eq (cl k) k l z) ?_;unfold laws_markInputS.F laws_markInputS.Fm;exact Tq.diag (markI_loop l.length 0 l z rfl hl h0 (by omega))
theorem markT_loop:∀(d j:Nat)(l:List Tm)(z:Int),l.length-j=d→l.length≤1048576→0≤z→z+2*d≤1125899906842624→
    Tq (d+1) (fun k q=>laws_markTermS.L0 (cl k) k q z (j:Int) l) (fun(r:R3)=>∃l',r=((z+2*d,()),l',())∧l'.length=l.length):=by
  intro d
  induction d with
  | zero=>
    intro j l z hd hl h0 hz;refine Tq.succ ?_;show Tq _ (fun k q=>laws_markTermS.step0 (cl k) k ..) _
    unfold laws_markTermS.step0;exact Tq.bf (dnlt (by omega)) (Tq.ret ⟨l,by rw[show z+2*((0:Nat):Int)=z by omega],rfl⟩)
  | succ d ih=>
    intro j l z hd hl h0 hz;have hj:j<l.length:=by omega
    refine Tq.succ ?_;show Tq _ (fun k q=>laws_markTermS.step0 (cl k) k ..) _
    unfold laws_markTermS.step0;rw[Int.toNat_natCast];refine Tq.bt (dlt hj) (Tq.bt (idx2 hj) (Tq.some (lgn hj) (Tq.bt (idx2 (by rw[List.length_set];exact hj)) (Tq.some (lset hj) ?_))));rw[ws hj (by omega),w64 (x:=z+1) (by omega) (by omega),w64 (by omega) (by omega)];refine(ih (j+1) _ (z+1+1) (by rw[List.length_set,List.length_set];omega) (by rw[List.length_set,List.length_set];exact hl) (by omega) (by omega)).mono ?_;rintro r ⟨l',rfl,h⟩;rw[List.length_set,List.length_set]at h;exact⟨l',by rw[show z+1+1+2*(d:Int)=z+2*((d+1:Nat):Int) by omega],h⟩
theorem markT_gv(l:List Tm)(z:Int)(hl:l.length≤1048576)(h0:0≤z)(hz:z≤562949953421312):Gv n_laws_markTermS s_laws_markTermS (l,z,()) (fun(r:R3)=>∃l',r=((z+2*(l.length:Int),()),l',())∧l'.length=l.length):=by
  refine Gv.of (fun k=>laws_markTermS.F_eq (cl k) k l z) ?_;unfold laws_markTermS.F laws_markTermS.Fm;exact Tq.diag (markT_loop l.length 0 l z rfl hl h0 (by omega))
abbrev R4:=(Int×Unit)×(List Sm×Unit)
theorem markS_loop:∀(d j:Nat)(l:List Sm)(z:Int),l.length-j=d→l.length≤1048576→(∀x∈l,x.2.2.1.length≤1048576∧x.2.2.2.1.length≤1048576)→0≤z→z+4194308*d≤562949953421312→
    Tq (d+1) (fun k q=>laws_markStmtS.L0 (cl k) k q z (j:Int) l) (fun(r:R4)=>∃z' l',r=((z',()),l',())∧0≤z'∧z'≤z+4194308*d):=by
  intro d
  induction d with
  | zero=>
    intro j l z hd hl hx h0 hz;refine Tq.succ ?_;show Tq _ (fun k q=>laws_markStmtS.step0 (cl k) k ..) _
    unfold laws_markStmtS.step0;exact Tq.bf (dnlt (by omega)) (Tq.ret ⟨z,l,rfl,h0,by omega⟩)
  | succ d ih=>
    intro j l z hd hl hx h0 hz;have hj:j<l.length:=by omega
    have hq:=hx _ (List.getElem_mem hj);refine Tq.succ ?_;show Tq _ (fun k q=>laws_markStmtS.step0 (cl k) k ..) _
    unfold laws_markStmtS.step0;rw[Int.toNat_natCast];have hj1:∀a:Sm,j<(l.set j a).length:=fun a=>by rw[List.length_set];exact hj
    have hj2:∀a b:Sm,j<((l.set j a).set j b).length:=fun a b=>by rw[List.length_set,List.length_set];exact hj
    have hj3:∀a b c:Sm,j<(((l.set j a).set j b).set j c).length:=fun a b c=>by rw[List.length_set,List.length_set,List.length_set];exact hj
    refine Tq.bt (dlt hj) (Tq.bt (idx2 hj) (Tq.some (lgn hj) (Tq.bt (idx2 (hj1 _)) (Tq.some (lset hj) (Tq.bt (idx2 (hj2 _ _)) (Tq.some (lset (hj1 _)) ?_))))));dsimp only;rw[w64 (x:=z+1) (by omega) (by omega),w64 (x:=z+1+1) (by omega) (by omega)];refine Tq.bind (markT_gv l[j].2.2.1 (z+1+1) hq.1 (by omega) (by omega)).tq ?_;rintro y ⟨l1,rfl,e1⟩;refine Tq.some (lset (hj1 _)) (Tq.bt (idx2 (hj3 _ _ _)) (Tq.some (lset (hj2 _ _)) ?_));dsimp only;refine Tq.bind (markT_gv l[j].2.2.2.1 (z+1+1+2*(l[j].2.2.1.length:Int)) hq.2 (by omega) (by omega)).tq ?_;rintro y ⟨l2,rfl,e2⟩;refine Tq.some (lset (hj2 _ _)) ?_;dsimp only;rw[ws hj (by omega)];refine(ih (j+1) _ _ (by simp only[List.length_set];omega) (by simp only[List.length_set];exact hl) (fun x hx2=>?_) (by omega) (by omega)).mono ?_
    . rcases List.mem_or_eq_of_mem_set hx2 with h|rfl
      . rcases List.mem_or_eq_of_mem_set h with h|rfl
        . rcases List.mem_or_eq_of_mem_set h with h|rfl
          . rcases List.mem_or_eq_of_mem_set h with h|rfl
            . exact hx x h
            . exact hq
          . exact hq
        . exact⟨by show l1.length≤_;omega,hq.2⟩
      . exact⟨by show l1.length≤_;omega,by show l2.length≤_;omega⟩
    . rintro r ⟨z',l',rfl,a1,a2⟩;exact⟨z',l',rfl,a1,by omega⟩
theorem markP_gv(p:Pg)(h:Small p):Gv n_laws_markProg s_laws_markProg (p,1,()) (fun(r:(Int×Unit)×(Pg×Unit))=>∃z p',r=((z,()),p',())∧0≤z∧z≤562949953421312):=by
  obtain⟨h1,h2,h3,h4,h5⟩:=h;refine Gv.of (fun k=>laws_markProg.F_eq (cl k) k p 1) ?_;unfold laws_markProg.F laws_markProg.Fm;refine Tq.bind (markI_gv p.2.1 1 h1 (by omega) (by omega)).tq ?_;rintro y ⟨l1,rfl,_⟩;refine Tq.bind (markI_gv p.2.2.1 _ h2 (by dsimp only;omega) (by dsimp only;omega)).tq ?_;rintro y ⟨l2,rfl,_⟩;refine Tq.bind (mark_gv p.2.2.2.2.1 _ (by dsimp only;omega) (by dsimp only;omega) h3).tq ?_;rintro y ⟨l3,rfl,_,_⟩;have hS:∀z:Int,0≤z→z≤100000000→Gv n_laws_markStmtS s_laws_markStmtS (p.2.2.2.2.2.1,z,()) (fun(r:R4)=>∃z' l',r=((z',()),l',())∧0≤z'∧z'≤z+4194308*p.2.2.2.2.2.1.length):=by
    intro z hz hz2;refine Gv.of (fun k=>laws_markStmtS.F_eq (cl k) k p.2.2.2.2.2.1 z) ?_;unfold laws_markStmtS.F laws_markStmtS.Fm;exact Tq.diag (markS_loop _ 0 p.2.2.2.2.2.1 z rfl h4 h5 hz (by omega))
  refine Tq.bind (hS _ (by dsimp only;omega) (by dsimp only;omega)).tq ?_;rintro y ⟨z,l4,rfl,a1,a2⟩;exact Tq.ret ⟨z,_,rfl,a1,by dsimp only at a2;omega⟩
end Go.Proofs.YtjgfofcgmcnblaaGreat.Pf
namespace Go.Proofs.YtjgfofcgmcnblaaGreat.Pf
open Go Go.Pv IntKind
namespace laws_toBoolS
abbrev R:=(((List Bool)×Unit)×Unit)
def S0(a0:(List Bool))(v0_1:Int)(v0_2:(List Bool)):St:=⟨mkS 22 [(0,.v (.slc .bool) (a0)),(3,.ref [500003]),(4,.v tI v0_1)],[([500003],.list 4 .bool v0_2)]⟩
def step0(call:Cl)(k:Nat)(a0:(List Bool))(r0:(Int)→((List Bool))→Option R)(v0_1:Int)(v0_2:(List Bool)):Option R:=bif decide (v0_1<(↑a0.length:Int))then bif decide (0≤v0_1)then(lget a0 v0_1.toNat).bind fun(y0:Bool)=>bif decide (0≤v0_1)&&decide (v0_1.toNat<v0_2.length)then(lget v0_2 v0_1.toNat).bind fun(y1:Bool)=>r0 (i64.wrap (v0_1+1)) (v0_2.set v0_1.toNat y0)else none else none else some ((v0_2,()),())
def L0(call:Cl)(k:Nat)(a0:(List Bool)):Nat→(Int)→((List Bool))→Option R|0,_,_=>none|n+1,v0_1,v0_2=>step0 call k a0 (L0 call k a0 n) v0_1 v0_2
def Fm(call:Cl)(k:Nat)(l0:((List Bool))→(Int)→((List Bool))→Option R)(a0:(List Bool)):Option R:=bif decide ((↑a0.length:Int)=(↑a0.length:Int))&&decide (0≤(↑a0.length:Int))&&decide ((↑a0.length:Int)*(↑ti4.bytes:Int)≤281474976710656)then l0 a0 0 (List.replicate (↑a0.length:Int).toNat false)else none
def F(call:Cl)(k:Nat)(a0:(List Bool)):Option R:=Fm call k (fun a0_ v0_1_ v0_2_=>L0 call k a0_ k v0_1_ v0_2_) a0
theorem L0_eq(call:Cl)(k:Nat)(J:Nat→St→Option R)(a0:(List Bool)):∀(n:Nat)(x:((Int)×((List Bool)))),siteI E call n_laws_toBoolS k s_laws_toBoolS (a0,()) J 0 n (S0 a0 x.1 x.2)=L0 call k a0 n x.1 x.2:=by
  refine loop_eq (s:=s_laws_toBoolS) (fun x=>S0 a0 x.1 x.2) (fun n x=>L0 call k a0 n x.1 x.2) (fun r x=>step0 call k a0 (fun v0_1 v0_2=>r (v0_1,v0_2)) x.1 x.2) (fun _=>rfl) (fun _ _=>rfl) fun J0 x=>?_
  kernel_rfl
theorem F_eq(call:Cl)(k:Nat)(a0:(List Bool)):bodyK E call n_laws_toBoolS k s_laws_toBoolS (a0,())=F call k a0:=by
  exact Eq.trans (b:=Fm call k (fun a0 v0_1_ v0_2_=>siteI E call n_laws_toBoolS k s_laws_toBoolS (a0,()) (fun _ _=>none) 0 k (S0 a0 v0_1_ v0_2_)) a0) (by kernel_rfl) (congrArg (fun l=>Fm call k l a0) (funext fun a0=>funext fun v0_1_=>funext fun v0_2_=>L0_eq call k (fun _ _=>none) a0 k (v0_1_,v0_2_)))
end laws_toBoolS
namespace laws_eqBoolS
abbrev R:=((Bool×Unit)×Unit)
def S0(a0:(List Bool))(a1:(List Bool))(v0_2:Int):St:=⟨mkS 26 [(0,.v (.slc .bool) (a0)),(1,.v (.slc .bool) (a1)),(5,.v tI v0_2)],[]⟩
def step0(call:Cl)(k:Nat)(a0:(List Bool))(a1:(List Bool))(r0:(Int)→Option R)(v0_2:Int):Option R:=bif decide (v0_2<(↑a0.length:Int))then bif decide (0≤v0_2)then(lget a0 v0_2.toNat).bind fun(y0:Bool)=>bif decide (0≤v0_2)then(lget a1 v0_2.toNat).bind fun(y1:Bool)=>bif !y0==y1 then some ((false,()),())else r0 (i64.wrap (v0_2+1))else none else none else some ((true,()),())
def L0(call:Cl)(k:Nat)(a0:(List Bool))(a1:(List Bool)):Nat→(Int)→Option R|0,_=>none|n+1,v0_2=>step0 call k a0 a1 (L0 call k a0 a1 n) v0_2
def Fm(call:Cl)(k:Nat)(l0:((List Bool))→((List Bool))→(Int)→Option R)(a0:(List Bool))(a1:(List Bool)):Option R:=bif(↑a0.length:Int)!=(↑a1.length:Int)then some ((false,()),())else l0 a0 a1 0
def F(call:Cl)(k:Nat)(a0:(List Bool))(a1:(List Bool)):Option R:=Fm call k (fun a0_ a1_ v0_2_=>L0 call k a0_ a1_ k v0_2_) a0 a1
theorem L0_eq(call:Cl)(k:Nat)(J:Nat→St→Option R)(a0:(List Bool))(a1:(List Bool)):∀(n:Nat)(x:(Int)),siteI E call n_laws_eqBoolS k s_laws_eqBoolS (a0,a1,()) J 0 n (S0 a0 a1 x)=L0 call k a0 a1 n x:=by
  refine loop_eq (s:=s_laws_eqBoolS) (fun x=>S0 a0 a1 x) (fun n x=>L0 call k a0 a1 n x) (fun r x=>step0 call k a0 a1 (fun v0_2=>r v0_2) x) (fun _=>rfl) (fun _ _=>rfl) fun J0 x=>?_
  kernel_rfl
theorem F_eq(call:Cl)(k:Nat)(a0:(List Bool))(a1:(List Bool)):bodyK E call n_laws_eqBoolS k s_laws_eqBoolS (a0,a1,())=F call k a0 a1:=by
  exact Eq.trans (b:=Fm call k (fun a0 a1 v0_2_=>siteI E call n_laws_eqBoolS k s_laws_eqBoolS (a0,a1,()) (fun _ _=>none) 0 k (S0 a0 a1 v0_2_)) a0 a1) (by kernel_rfl) (congrArg (fun l=>Fm call k l a0 a1) (funext fun a0=>funext fun a1=>funext fun v0_2_=>L0_eq call k (fun _ _=>none) a0 a1 k v0_2_))
end laws_eqBoolS
namespace laws_markBoolS
abbrev R:=((Int×Unit)×((List Bool)×Unit))
def S0(v0_0:Int)(v0_1:Int)(v0_2:(List Bool)):St:=⟨mkS 21 [(0,.ref [500000]),(1,.v tI v0_0),(5,.v tI v0_1)],[([500000],.list 4 .bool v0_2)]⟩
def step0(call:Cl)(k:Nat)(r0:(Int)→(Int)→((List Bool))→Option R)(v0_0:Int)(v0_1:Int)(v0_2:(List Bool)):Option R:=bif decide (v0_1<(↑v0_2.length:Int))then bif decide (0≤v0_1)&&decide (v0_1.toNat<v0_2.length)then(lget v0_2 v0_1.toNat).bind fun(y0:Bool)=>r0 (i64.wrap (v0_0+1)) (i64.wrap (v0_1+1)) (v0_2.set v0_1.toNat (v0_0.tmod 3==0))else none else some ((v0_0,()),v0_2,())
def L0(call:Cl)(k:Nat):Nat→(Int)→(Int)→((List Bool))→Option R|0,_,_,_=>none|n+1,v0_0,v0_1,v0_2=>step0 call k (L0 call k n) v0_0 v0_1 v0_2
def Fm(call:Cl)(k:Nat)(l0:(Int)→(Int)→((List Bool))→Option R)(a0:(List Bool))(a1:Int):Option R:=l0 a1 0 a0
def F(call:Cl)(k:Nat)(a0:(List Bool))(a1:Int):Option R:=Fm call k (fun v0_0_ v0_1_ v0_2_=>L0 call k k v0_0_ v0_1_ v0_2_) a0 a1
theorem L0_eq(call:Cl)(k:Nat)(J:Nat→St→Option R)(a0:(List Bool))(a1:Int):∀(n:Nat)(x:((Int)×(Int)×((List Bool)))),siteI E call n_laws_markBoolS k s_laws_markBoolS (a0,a1,()) J 0 n (S0 x.1 x.2.1 x.2.2)=L0 call k n x.1 x.2.1 x.2.2:=by
  refine loop_eq (s:=s_laws_markBoolS) (fun x=>S0 x.1 x.2.1 x.2.2) (fun n x=>L0 call k n x.1 x.2.1 x.2.2) (fun r x=>step0 call k (fun v0_0 v0_1 v0_2=>r (v0_0,v0_1,v0_2)) x.1 x.2.1 x.2.2) (fun _=>rfl) (fun _ _=>rfl) fun J0 x=>?_
  kernel_rfl
theorem F_eq(call:Cl)(k:Nat)(a0:(List Bool))(a1:Int):bodyK E call n_laws_markBoolS k s_laws_markBoolS (a0,a1,())=F call k a0 a1:=by
  exact Eq.trans (b:=Fm call k (fun v0_0_ v0_1_ v0_2_=>siteI E call n_laws_markBoolS k s_laws_markBoolS (a0,a1,()) (fun _ _=>none) 0 k (S0 v0_0_ v0_1_ v0_2_)) a0 a1) (by kernel_rfl) (congrArg (fun l=>Fm call k l a0 a1) (funext fun v0_0_=>funext fun v0_1_=>funext fun v0_2_=>L0_eq call k (fun _ _=>none) a0 a1 k (v0_0_,v0_1_,v0_2_)))
end laws_markBoolS
end Go.Proofs.YtjgfofcgmcnblaaGreat.Pf
namespace Go.Proofs.YtjgfofcgmcnblaaGreat.Pf
open Go Go.Pv
theorem toBoolS_ans(a:List Bool)(ha:a.length≤1048576):Ans n_laws_toBoolS s_laws_toBoolS (a,()) ((a,()),()):=by
  have key:∀(d j:Nat)(acc:List Bool),a.length-j=d→acc.length=a.length→Tq (d+1) (fun k q=>laws_toBoolS.L0 (cl k) k a q (j:Int) acc) (· =((acc.take j++a.drop j,()),())):=by
    intro d
    induction d with
    | zero=>
      intro j acc hd hl;refine Tq.succ ?_;show Tq _ (fun k q=>laws_toBoolS.step0 (cl k) k ..) _
      unfold laws_toBoolS.step0;refine Tq.bf (dnlt (by omega)) (Tq.ret ?_);rw[List.take_of_length_le (by omega),List.drop_of_length_le (by omega),List.append_nil]
    | succ d ih=>
      intro j acc hd hl;have hj:j<a.length:=by omega
      have hj':j<acc.length:=by omega
      refine Tq.succ ?_;show Tq _ (fun k q=>laws_toBoolS.step0 (cl k) k ..) _
      unfold laws_toBoolS.step0;refine Tq.bt (dlt hj) (Tq.bt (dle0 j) (Tq.some (lg hj) (Tq.bt (idx_ok hj') (Tq.some (lg hj') ?_))));rw[ws hj (by omega),Int.toNat_natCast,←set_take_drop acc a hj hl];exact ih (j+1) _ (by omega) (by simp[hl])
  refine Gv.ans (Gv.of (fun k=>laws_toBoolS.F_eq (cl k) k a) ?_);unfold laws_toBoolS.F laws_toBoolS.Fm;refine Tq.bt (mk_ok (b:=ti4.bytes) (by show a.length*1≤_;omega)) (Tq.diag ((key a.length 0 _ rfl (by simp)).mono fun x hx=>?_));rw[hx];simp
theorem eqBoolS_ans(a:List Bool)(ha:a.length≤1048576):Ans n_laws_eqBoolS s_laws_eqBoolS (a,a,()) ((true,()),()):=by
  have key:∀(d j:Nat),a.length-j=d→Tq (d+1) (fun k q=>laws_eqBoolS.L0 (cl k) k a a q (j:Int)) (· =((true,()),())):=by
    intro d
    induction d with
    | zero=>
      intro j hd;refine Tq.succ ?_;show Tq _ (fun k q=>laws_eqBoolS.step0 (cl k) k ..) _
      unfold laws_eqBoolS.step0;exact Tq.bf (dnlt (by omega)) (Tq.ret rfl)
    | succ d ih=>
      intro j hd;have hj:j<a.length:=by omega
      refine Tq.succ ?_;show Tq _ (fun k q=>laws_eqBoolS.step0 (cl k) k ..) _
      unfold laws_eqBoolS.step0;refine Tq.bt (dlt hj) (Tq.bt (dle0 j) (Tq.some (lg hj) (Tq.bt (dle0 j) (Tq.some (lg hj) (Tq.bf (by rw[beq_self_eq_true];rfl) ?_)))));rw[ws hj (by omega)];exact ih (j+1) (by omega)
  refine Gv.ans (Gv.of (fun k=>laws_eqBoolS.F_eq (cl k) k a a) ?_);unfold laws_eqBoolS.F laws_eqBoolS.Fm;exact Tq.bf (bne_self_eq_false _) (Tq.diag (key _ 0 rfl))
abbrev RB:=(Int×Unit)×(List Bool×Unit)
theorem markB_gv(l:List Bool)(z:Int)(hl:l.length≤1048576)(h0:0≤z)(hz:z≤1125899906842624):Gv n_laws_markBoolS s_laws_markBoolS (l,z,()) (fun(r:RB)=>∃l',r=((z+(l.length:Int),()),l',())):=by
  have key:∀(d j:Nat)(l:List Bool)(z:Int),l.length-j=d→l.length≤1048576→0≤z→z+d≤1125899908890000→
      Tq (d+1) (fun k q=>laws_markBoolS.L0 (cl k) k q z (j:Int) l) (fun(r:RB)=>∃l',r=((z+d,()),l',())):=by
    intro d
    induction d with
    | zero=>
      intro j l z hd hl h0 hz;refine Tq.succ ?_;show Tq _ (fun k q=>laws_markBoolS.step0 (cl k) k ..) _
      unfold laws_markBoolS.step0;exact Tq.bf (dnlt (by omega)) (Tq.ret ⟨l,by rw[show z+((0:Nat):Int)=z by omega]⟩)
    | succ d ih=>
      intro j l z hd hl h0 hz;have hj:j<l.length:=by omega
      refine Tq.succ ?_;show Tq _ (fun k q=>laws_markBoolS.step0 (cl k) k ..) _
      unfold laws_markBoolS.step0;refine Tq.bt (dlt hj) (Tq.bt (idx_ok hj) (Tq.some (lg hj) ?_));rw[ws hj (by omega),w64 (by omega) (by omega)];refine(ih (j+1) _ (z+1) (by rw[List.length_set];omega) (by rw[List.length_set];exact hl) (by omega) (by omega)).mono ?_;rintro r ⟨l',rfl⟩;exact⟨l',by rw[show z+1+(d:Int)=z+((d+1:Nat):Int) by omega]⟩
  refine Gv.of (fun k=>laws_markBoolS.F_eq (cl k) k l z) ?_;unfold laws_markBoolS.F laws_markBoolS.Fm;exact Tq.diag (key l.length 0 l z rfl hl h0 (by omega))
end Go.Proofs.YtjgfofcgmcnblaaGreat.Pf
