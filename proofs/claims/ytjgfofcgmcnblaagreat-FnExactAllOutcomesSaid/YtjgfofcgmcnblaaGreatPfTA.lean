/- Printed texts: what the reading of these functions is. No condition. -/
import Derived.Test.YtjgfofcgmcnblaaGreatPvEnv
import Derived.KernelRfl
set_option linter.all false
set_option maxHeartbeats 2000000
namespace Go.Proofs.YtjgfofcgmcnblaaGreat.Pf
open Go Go.Pv IntKind
abbrev YA_0:Type:=((Int×((List (Int×(Int×Unit)))×((List (Int×(Int×Unit)))×(Int×((List Int)×((List (Int×(Int×((List (Int×(Int×Unit)))×((List (Int×(Int×Unit)))×Unit)))))×Unit)))))))
abbrev YA_1:Type:=(Int×((List (Int×(Int×Unit)))×((List (Int×(Int×Unit)))×(Int×((List Int)×((List (Int×(Int×((List (Int×(Int×Unit)))×((List (Int×(Int×Unit)))×Unit)))))×Unit))))))
abbrev YA_2:Type:=((((List (Int×(Int×Unit)))×Unit)×Unit))
abbrev YA_3:Type:=(((List (Int×(Int×Unit)))×Unit)×Unit)
abbrev YA_4:Type:=((Int)×(Int)×((List Int)))
abbrev YA_5:Type:=((Int)×((List Int)))
abbrev YA_6:Type:=(List (List Int))
abbrev YA_7:Type:=((Int)×(Int))
/-! #### spec_l7Maxes-/
namespace spec_l7Maxes
abbrev R:=(((List Int)×Unit)×Unit)
def S1(a0:YA_1)(v1_0:Int)(v1_1:(List Int)):St:=⟨mkS 40 [(1,.p [500001] [] 0),(3,.ref [500003]),(5,.v tI v1_0)],[([500003],.list 2 tI v1_1),([500001],.box (.v tPg ((a0.1),((a0.2.1),((a0.2.2.1),((a0.2.2.2.1),((a0.2.2.2.2.1),((a0.2.2.2.2.2.1),()))))))))]⟩
def S0(a0:YA_1)(v0_0:Int)(v0_1:(List Int)):St:=⟨mkS 40 [(1,.p [500001] [] 0),(3,.ref [500003]),(4,.v tI v0_0)],[([500003],.list 2 tI v0_1),([500001],.box (.v tPg ((a0.1),((a0.2.1),((a0.2.2.1),((a0.2.2.2.1),((a0.2.2.2.2.1),((a0.2.2.2.2.2.1),()))))))))]⟩
def step1(call:Cl)(k:Nat)(a0:YA_1)(r1:(Int)→((List Int))→Option R)(v1_0:Int)(v1_1:(List Int)):Option R:=bif decide (v1_0<(↑a0.2.2.1.length:Int))then bif decide (0≤v1_0)then(lget a0.2.2.1 v1_0.toNat).bind fun(y1:Int×Int×Unit)=>bif decide ((v1_1.length+[y1.1].length)*ti2.bytes≤140737488355328)then r1 (i64.wrap (v1_0+1)) (v1_1++[y1.1])else none else none else some ((v1_1,()),())
def L1(call:Cl)(k:Nat)(a0:YA_1):Nat→(Int)→((List Int))→Option R|0,_,_=>none|n+1,v1_0,v1_1=>step1 call k a0 (L1 call k a0 n) v1_0 v1_1
def step0(call:Cl)(k:Nat)(a0:YA_1)(l1:YA_0→(Int)→((List Int))→Option R)(r0:(Int)→((List Int))→Option R)(v0_0:Int)(v0_1:(List Int)):Option R:=bif decide (v0_0<(↑a0.2.1.length:Int))then bif decide (0≤v0_0)then(lget a0.2.1 v0_0.toNat).bind fun(y0:Int×Int×Unit)=>bif decide ((v0_1.length+[y0.1].length)*ti2.bytes≤140737488355328)then r0 (i64.wrap (v0_0+1)) (v0_1++[y0.1])else none else none else l1 a0 0 v0_1
def L0(call:Cl)(k:Nat)(a0:YA_1):Nat→(Int)→((List Int))→Option R|0,_,_=>none|n+1,v0_0,v0_1=>step0 call k a0 (fun a0_ v1_0_ v1_1_=>L1 call k a0_ k v1_0_ v1_1_) (L0 call k a0 n) v0_0 v0_1
def Fm(call:Cl)(k:Nat)(l0:YA_0→(Int)→((List Int))→Option R)(a0:YA_1):Option R:=l0 a0 0 []
def F(call:Cl)(k:Nat)(a0:YA_1):Option R:=Fm call k (fun a0_ v0_0_ v0_1_=>L0 call k a0_ k v0_0_ v0_1_) a0
theorem L1_eq(call:Cl)(k:Nat)(J:Nat→St→Option R)(a0:YA_1):∀(n:Nat)(x:YA_5),siteI E call n_spec_l7Maxes k s_spec_l7Maxes (a0,()) J 1 n (S1 a0 x.1 x.2)=L1 call k a0 n x.1 x.2:=by
  refine loop_eq (s:=s_spec_l7Maxes) (fun x=>S1 a0 x.1 x.2) (fun n x=>L1 call k a0 n x.1 x.2) (fun r x=>step1 call k a0 (fun v1_0 v1_1=>r (v1_0,v1_1)) x.1 x.2) (fun _=>rfl) (fun _ _=>rfl) fun J0 x=>?_
  kernel_rfl
theorem L0_eq(call:Cl)(k:Nat)(J:Nat→St→Option R)(a0:YA_1):∀(n:Nat)(x:YA_5),siteI E call n_spec_l7Maxes k s_spec_l7Maxes (a0,()) J 0 n (S0 a0 x.1 x.2)=L0 call k a0 n x.1 x.2:=by
  refine loop_eq (s:=s_spec_l7Maxes) (fun x=>S0 a0 x.1 x.2) (fun n x=>L0 call k a0 n x.1 x.2) (fun r x=>step0 call k a0 (fun(a0:YA_1)(v1_0_:Int)(v1_1_:(List Int))=>L1 call k a0 k v1_0_ v1_1_) (fun v0_0 v0_1=>r (v0_0,v0_1)) x.1 x.2) (fun _=>rfl) (fun _ _=>rfl) fun J0 x=>?_
  refine Eq.trans (b:=step0 call k a0 (fun a0 v1_0_ v1_1_=>siteI E call n_spec_l7Maxes k s_spec_l7Maxes (a0,()) (upJ 0 J0 J) 1 k (S1 a0 v1_0_ v1_1_)) (fun v0_0 v0_1=>J0 (S0 a0 v0_0 v0_1)) x.1 x.2) (by kernel_rfl) ?_;rw[show(fun(a0:YA_1)(v1_0_:Int)(v1_1_:(List Int))=>siteI E call n_spec_l7Maxes k s_spec_l7Maxes (a0,()) (upJ 0 J0 J) 1 k (S1 a0 v1_0_ v1_1_))=(fun(a0:YA_1)(v1_0_:Int)(v1_1_:(List Int))=>L1 call k a0 k v1_0_ v1_1_)from funext fun a0=>funext fun v1_0_=>funext fun v1_1_=>L1_eq call k (upJ 0 J0 J) a0 k (v1_0_,v1_1_)]
  all_goals rfl
theorem F_eq(call:Cl)(k:Nat)(a0:YA_1):bodyK E call n_spec_l7Maxes k s_spec_l7Maxes (a0,())=F call k a0:=by
  exact Eq.trans (b:=Fm call k (fun a0 v0_0_ v0_1_=>siteI E call n_spec_l7Maxes k s_spec_l7Maxes (a0,()) (fun _ _=>none) 0 k (S0 a0 v0_0_ v0_1_)) a0) (by kernel_rfl) (congrArg (fun l=>Fm call k l a0) (funext fun a0=>funext fun v0_0_=>funext fun v0_1_=>L0_eq call k (fun _ _=>none) a0 k (v0_0_,v0_1_)))
end spec_l7Maxes
/-! #### spec_l7Count-/
namespace spec_l7Count
abbrev R:=((Int×Unit)×Unit)
def S0(a0:(List Int))(v0_1:Int)(v0_2:Int):St:=⟨mkS 19 [(0,.v (.slc tI) (a0)),(3,.v tI v0_1),(4,.v tI v0_2)],[]⟩
def step0(call:Cl)(k:Nat)(a0:(List Int))(r0:(Int)→(Int)→Option R)(v0_1:Int)(v0_2:Int):Option R:=bif decide (v0_2<(↑a0.length:Int))then bif decide (0≤v0_2)then(lget a0 v0_2.toNat).bind fun(y0:Int)=>r0 (i64.wrap (v0_1*i64.wrap (y0+1))) (i64.wrap (v0_2+1))else none else some ((v0_1,()),())
def L0(call:Cl)(k:Nat)(a0:(List Int)):Nat→(Int)→(Int)→Option R|0,_,_=>none|n+1,v0_1,v0_2=>step0 call k a0 (L0 call k a0 n) v0_1 v0_2
def Fm(call:Cl)(k:Nat)(l0:((List Int))→(Int)→(Int)→Option R)(a0:(List Int)):Option R:=l0 a0 1 0
def F(call:Cl)(k:Nat)(a0:(List Int)):Option R:=Fm call k (fun a0_ v0_1_ v0_2_=>L0 call k a0_ k v0_1_ v0_2_) a0
theorem L0_eq(call:Cl)(k:Nat)(J:Nat→St→Option R)(a0:(List Int)):∀(n:Nat)(x:YA_7),siteI E call n_spec_l7Count k s_spec_l7Count (a0,()) J 0 n (S0 a0 x.1 x.2)=L0 call k a0 n x.1 x.2:=by
  refine loop_eq (s:=s_spec_l7Count) (fun x=>S0 a0 x.1 x.2) (fun n x=>L0 call k a0 n x.1 x.2) (fun r x=>step0 call k a0 (fun v0_1 v0_2=>r (v0_1,v0_2)) x.1 x.2) (fun _=>rfl) (fun _ _=>rfl) fun J0 x=>?_
  kernel_rfl
theorem F_eq(call:Cl)(k:Nat)(a0:(List Int)):bodyK E call n_spec_l7Count k s_spec_l7Count (a0,())=F call k a0:=by
  exact Eq.trans (b:=Fm call k (fun a0 v0_1_ v0_2_=>siteI E call n_spec_l7Count k s_spec_l7Count (a0,()) (fun _ _=>none) 0 k (S0 a0 v0_1_ v0_2_)) a0) (by kernel_rfl) (congrArg (fun l=>Fm call k l a0) (funext fun a0=>funext fun v0_1_=>funext fun v0_2_=>L0_eq call k (fun _ _=>none) a0 k (v0_1_,v0_2_)))
end spec_l7Count
/-! #### spec_l7At-/
namespace spec_l7At
abbrev R:=(((List Int)×Unit)×Unit)
def S0(a0:(List Int))(v0_1:Int)(v0_2:Int)(v0_3:(List Int)):St:=⟨mkS 32 [(0,.v (.slc tI) (a0)),(1,.v tI v0_1),(5,.ref [500005]),(6,.v tI v0_2)],[([500005],.list 2 tI v0_3)]⟩
def step0(call:Cl)(k:Nat)(a0:(List Int))(r0:(Int)→(Int)→((List Int))→Option R)(v0_1:Int)(v0_2:Int)(v0_3:(List Int)):Option R:=bif decide (v0_2<(↑a0.length:Int))then bif decide (0≤v0_2)then(lget a0 v0_2.toNat).bind fun(y0:Int)=>bif decide (i64.wrap (y0+1)=0)then none else bif decide ((v0_3.length+[v0_1.tmod (i64.wrap (y0+1))].length)*ti2.bytes≤140737488355328)then bif decide (0≤v0_2)then(lget a0 v0_2.toNat).bind fun(y1:Int)=>bif decide (i64.wrap (y1+1)=0)then none else r0 (i64.wrap (v0_1.tdiv (i64.wrap (y1+1)))) (i64.wrap (v0_2+1)) (v0_3++[v0_1.tmod (i64.wrap (y0+1))])else none else none else none else some ((v0_3,()),())
def L0(call:Cl)(k:Nat)(a0:(List Int)):Nat→(Int)→(Int)→((List Int))→Option R|0,_,_,_=>none|n+1,v0_1,v0_2,v0_3=>step0 call k a0 (L0 call k a0 n) v0_1 v0_2 v0_3
def Fm(call:Cl)(k:Nat)(l0:((List Int))→(Int)→(Int)→((List Int))→Option R)(a0:(List Int))(a1:Int):Option R:=l0 a0 a1 0 []
def F(call:Cl)(k:Nat)(a0:(List Int))(a1:Int):Option R:=Fm call k (fun a0_ v0_1_ v0_2_ v0_3_=>L0 call k a0_ k v0_1_ v0_2_ v0_3_) a0 a1
theorem L0_eq(call:Cl)(k:Nat)(J:Nat→St→Option R)(a0:(List Int))(a1:Int):∀(n:Nat)(x:YA_4),siteI E call n_spec_l7At k s_spec_l7At (a0,a1,()) J 0 n (S0 a0 x.1 x.2.1 x.2.2)=L0 call k a0 n x.1 x.2.1 x.2.2:=by
  refine loop_eq (s:=s_spec_l7At) (fun x=>S0 a0 x.1 x.2.1 x.2.2) (fun n x=>L0 call k a0 n x.1 x.2.1 x.2.2) (fun r x=>step0 call k a0 (fun v0_1 v0_2 v0_3=>r (v0_1,v0_2,v0_3)) x.1 x.2.1 x.2.2) (fun _=>rfl) (fun _ _=>rfl) fun J0 x=>?_
  kernel_rfl
theorem F_eq(call:Cl)(k:Nat)(a0:(List Int))(a1:Int):bodyK E call n_spec_l7At k s_spec_l7At (a0,a1,())=F call k a0 a1:=by
  exact Eq.trans (b:=Fm call k (fun a0 v0_1_ v0_2_ v0_3_=>siteI E call n_spec_l7At k s_spec_l7At (a0,a1,()) (fun _ _=>none) 0 k (S0 a0 v0_1_ v0_2_ v0_3_)) a0 a1) (by kernel_rfl) (congrArg (fun l=>Fm call k l a0 a1) (funext fun a0=>funext fun v0_1_=>funext fun v0_2_=>funext fun v0_3_=>L0_eq call k (fun _ _=>none) a0 a1 k (v0_1_,v0_2_,v0_3_)))
end spec_l7At
/-! #### spec_l6Of-/
namespace spec_l6Of
abbrev R:=((((List Int)×(Int×(Int×Unit)))×Unit)×Unit)
def S0(a0:YA_1)(a1:(List Int))(v0_0:Int)(v0_1:YA_6):St:=⟨mkS 46 [(2,.p [500002] [] 0),(4,.p [500004] [] 0),(5,.p [500005] [] 0),(6,.v tI v0_0)],[([500005,5,1,0],.list 28 (.own 2 tI) v0_1),([500005,5,0],.list 2 tI ([]++a1++List.replicate (Int.toNat a0.2.2.2.1) (Int.ofNat (nat_lit 0)))),([500005],.box (.pr (.ref [500005,5,0]) (.pr (.ref [500005,5,1,0]) (.v .unit ())))),([500004,5,0],.list 2 tI ([])),([500004],.box (.pr (.ref [500004,5,0]) (.v tTm ((0),((0),()))))),([500002],.box (.v tPg ((a0.1),((a0.2.1),((a0.2.2.1),((a0.2.2.2.1),((a0.2.2.2.2.1),((a0.2.2.2.2.2.1),()))))))))]⟩
def step0(call:Cl)(k:Nat)(a0:YA_1)(a1:(List Int))(r0:(Int)→(YA_6)→Option R)(v0_0:Int)(v0_1:YA_6):Option R:=bif decide (v0_0<(↑a0.2.2.2.2.1.length:Int))then bif decide (0≤v0_0)then(lget a0.2.2.2.2.1 v0_0.toNat).bind fun(y0:Int)=>bif decide (y0=y0)&&decide (0≤y0)&&decide (y0*(↑ti2.bytes:Int)≤281474976710656)then bif decide ((v0_1.length+[List.replicate y0.toNat (Int.ofNat (nat_lit 0))].length)*ti28.bytes≤140737488355328)then r0 (i64.wrap (v0_0+1)) (v0_1++[List.replicate y0.toNat (Int.ofNat (nat_lit 0))])else none else none else none else(call 155 s_spec_l6Run ((a0,([]++a1++List.replicate (Int.toNat a0.2.2.2.1) (Int.ofNat (nat_lit 0)),v0_1,()),([],0,0,()),false,()),0,(↑a0.2.2.2.2.2.1.length:Int),())).bind fun(y1:(Unit×((Int×List (Int×Int×Unit)×List (Int×Int×Unit)×Int×List Int×List (Int×Int×List (Int×Int×Unit)×List (Int×Int×Unit)×Unit)×Unit)×(List Int×List (List Int)×Unit)×(List Int×Int×Int×Unit)×Bool×Unit)×Unit))=>some ((y1.2.1.2.2.1,()),())
def L0(call:Cl)(k:Nat)(a0:YA_1)(a1:(List Int)):Nat→(Int)→(YA_6)→Option R|0,_,_=>none|n+1,v0_0,v0_1=>step0 call k a0 a1 (L0 call k a0 a1 n) v0_0 v0_1
def Fm(call:Cl)(k:Nat)(l0:YA_0→((List Int))→(Int)→(YA_6)→Option R)(a0:YA_1)(a1:(List Int)):Option R:=bif decide ((0+a1.length)*ti2.bytes≤140737488355328)then bif decide (0≤a0.2.2.2.1)&&decide ((([]++a1).length+Int.toNat a0.2.2.2.1)*ti2.bytes≤140737488355328)then l0 a0 a1 0 []else none else none
def F(call:Cl)(k:Nat)(a0:YA_1)(a1:(List Int)):Option R:=Fm call k (fun a0_ a1_ v0_0_ v0_1_=>L0 call k a0_ a1_ k v0_0_ v0_1_) a0 a1
theorem L0_eq(call:Cl)(k:Nat)(J:Nat→St→Option R)(a0:YA_1)(a1:(List Int)):∀(n:Nat)(x:((Int)×(YA_6))),siteI E call n_spec_l6Of k s_spec_l6Of (a0,a1,()) J 0 n (S0 a0 a1 x.1 x.2)=L0 call k a0 a1 n x.1 x.2:=by
  refine loop_eq (s:=s_spec_l6Of) (fun x=>S0 a0 a1 x.1 x.2) (fun n x=>L0 call k a0 a1 n x.1 x.2) (fun r x=>step0 call k a0 a1 (fun v0_0 v0_1=>r (v0_0,v0_1)) x.1 x.2) (fun _=>rfl) (fun _ _=>rfl) fun J0 x=>?_
  kernel_rfl
theorem F_eq(call:Cl)(k:Nat)(a0:YA_1)(a1:(List Int)):bodyK E call n_spec_l6Of k s_spec_l6Of (a0,a1,())=F call k a0 a1:=by
  exact Eq.trans (b:=Fm call k (fun a0 a1 v0_0_ v0_1_=>siteI E call n_spec_l6Of k s_spec_l6Of (a0,a1,()) (fun _ _=>none) 0 k (S0 a0 a1 v0_0_ v0_1_)) a0 a1) (by kernel_rfl) (congrArg (fun l=>Fm call k l a0 a1) (funext fun a0=>funext fun a1=>funext fun v0_0_=>funext fun v0_1_=>L0_eq call k (fun _ _=>none) a0 a1 k (v0_0_,v0_1_)))
end spec_l6Of
/-! #### impl_allInputs-/
namespace impl_allInputs
abbrev R:=(((List (Int×(Int×Unit)))×Unit)×Unit)
def Fm(call:Cl)(k:Nat)(a0:YA_1):Option R:=bif decide ((0+List.length a0.2.1)*ti59.bytes≤140737488355328)then bif decide ((([]++a0.2.1).length+List.length a0.2.2.1)*ti59.bytes≤140737488355328)then some (([]++a0.2.1++a0.2.2.1,()),())else none else none
def F(call:Cl)(k:Nat)(a0:YA_1):Option R:=Fm call k a0
theorem F_eq(call:Cl)(k:Nat)(a0:YA_1):bodyK E call n_impl_allInputs k s_impl_allInputs (a0,())=F call k a0:=by kernel_rfl
end impl_allInputs
/-! #### impl_manyInputs-/
namespace impl_manyInputs
abbrev R:=((Int×Unit)×Unit)
def S0(y0:YA_2)(v0_0:Int)(v0_2:Int):St:=⟨mkS 20 [(3,.v tI v0_0),(7,.ref [500007]),(8,.v tI ((↑(List.length y0.1.1):Int))),(9,.v tI v0_2)],[([500007],.list 59 tTm (y0.1.1))]⟩
def step0(call:Cl)(k:Nat)(y0:YA_3)(r0:(Int)→(Int)→Option R)(v0_0:Int)(v0_2:Int):Option R:=bif decide (v0_2<(↑(List.length y0.1.1):Int))then bif decide (0≤v0_2)&&decide (v0_2.toNat<List.length y0.1.1)then(lget y0.1.1 v0_2.toNat).bind fun(y1:Int×Int×Unit)=>r0 (i64.wrap (v0_0*i64.wrap (y1.1+1))) (i64.wrap (v0_2+1))else none else some ((v0_0,()),())
def L0(call:Cl)(k:Nat)(y0:YA_3):Nat→(Int)→(Int)→Option R|0,_,_=>none|n+1,v0_0,v0_2=>step0 call k y0 (L0 call k y0 n) v0_0 v0_2
def Fm(call:Cl)(k:Nat)(l0:YA_2→(Int)→(Int)→Option R)(a0:YA_1):Option R:=(call 178 s_impl_allInputs (a0,())).bind fun(y0:((List (Int×Int×Unit)×Unit)×Unit))=>l0 y0 1 0
def F(call:Cl)(k:Nat)(a0:YA_1):Option R:=Fm call k (fun y0_ v0_0_ v0_2_=>L0 call k y0_ k v0_0_ v0_2_) a0
theorem L0_eq(call:Cl)(k:Nat)(J:Nat→St→Option R)(a0:YA_1)(y0:YA_3):∀(n:Nat)(x:YA_7),siteI E call n_impl_manyInputs k s_impl_manyInputs (a0,()) J 0 n (S0 y0 x.1 x.2)=L0 call k y0 n x.1 x.2:=by
  refine loop_eq (s:=s_impl_manyInputs) (fun x=>S0 y0 x.1 x.2) (fun n x=>L0 call k y0 n x.1 x.2) (fun r x=>step0 call k y0 (fun v0_0 v0_2=>r (v0_0,v0_2)) x.1 x.2) (fun _=>rfl) (fun _ _=>rfl) fun J0 x=>?_
  kernel_rfl
theorem F_eq(call:Cl)(k:Nat)(a0:YA_1):bodyK E call n_impl_manyInputs k s_impl_manyInputs (a0,())=F call k a0:=by
  exact Eq.trans (b:=Fm call k (fun y0 v0_0_ v0_2_=>siteI E call n_impl_manyInputs k s_impl_manyInputs (a0,()) (fun _ _=>none) 0 k (S0 y0 v0_0_ v0_2_)) a0) (by kernel_rfl) (congrArg (fun l=>Fm call k l a0) (funext fun y0=>funext fun v0_0_=>funext fun v0_2_=>L0_eq call k (fun _ _=>none) a0 y0 k (v0_0_,v0_2_)))
end impl_manyInputs
/-! #### impl_inputOf-/
namespace impl_inputOf
abbrev R:=(((List Int)×((List Int)×Unit))×Unit)
def S0(a0:YA_1)(y0:YA_2)(v0_1:Int)(v0_3:Int)(v0_5:(List Int)):St:=⟨mkS 47 [(0,.v (.sptr tPg) (a0)),(1,.v tI v0_1),(6,.ref [500006]),(12,.ref [500012]),(13,.v tI ((↑(List.length y0.1.1):Int))),(14,.v tI v0_3)],[([500012],.list 59 tTm (y0.1.1)),([500006],.list 2 tI v0_5)]⟩
def step0(call:Cl)(k:Nat)(a0:YA_1)(y0:YA_3)(r0:(Int)→(Int)→((List Int))→Option R)(v0_1:Int)(v0_3:Int)(v0_5:(List Int)):Option R:=bif decide (v0_3<(↑(List.length y0.1.1):Int))then bif decide (0≤v0_3)&&decide (v0_3.toNat<List.length y0.1.1)then(lget y0.1.1 v0_3.toNat).bind fun(y1:Int×Int×Unit)=>bif decide (i64.wrap (y1.1+1)=0)then none else bif decide ((v0_5.length+[v0_1.tmod (i64.wrap (y1.1+1))].length)*ti2.bytes≤140737488355328)then bif decide (i64.wrap (y1.1+1)=0)then none else r0 (i64.wrap (v0_1.tdiv (i64.wrap (y1.1+1)))) (i64.wrap (v0_3+1)) (v0_5++[v0_1.tmod (i64.wrap (y1.1+1))])else none else none else bif decide (0≤(↑(List.length a0.2.1):Int))then bif decide (0≤(↑(List.length a0.2.1):Int).toNat)&&decide ((↑(List.length a0.2.1):Int).toNat≤v0_5.length)then bif decide ((0+(List.take ((↑(List.length a0.2.1):Int).toNat-0) (List.drop 0 v0_5)).length)*ti2.bytes≤140737488355328)then bif decide (0≤(↑(List.length a0.2.1):Int))then bif decide ((↑(List.length a0.2.1):Int).toNat≤v0_5.length)&&decide (v0_5.length≤v0_5.length)then bif decide ((0+(List.take (v0_5.length-(↑(List.length a0.2.1):Int).toNat) (List.drop (↑(List.length a0.2.1):Int).toNat v0_5)).length)*ti2.bytes≤140737488355328)then some (([]++List.take ((↑(List.length a0.2.1):Int).toNat-0) (List.drop 0 v0_5),[]++List.take (v0_5.length-(↑(List.length a0.2.1):Int).toNat) (List.drop (↑(List.length a0.2.1):Int).toNat v0_5),()),())else none else none else none else none else none else none
def L0(call:Cl)(k:Nat)(a0:YA_1)(y0:YA_3):Nat→(Int)→(Int)→((List Int))→Option R|0,_,_,_=>none|n+1,v0_1,v0_3,v0_5=>step0 call k a0 y0 (L0 call k a0 y0 n) v0_1 v0_3 v0_5
def Fm(call:Cl)(k:Nat)(l0:YA_0→YA_2→(Int)→(Int)→((List Int))→Option R)(a0:YA_1)(a1:Int):Option R:=(call 178 s_impl_allInputs (a0,())).bind fun(y0:((List (Int×Int×Unit)×Unit)×Unit))=>l0 a0 y0 a1 0 []
def F(call:Cl)(k:Nat)(a0:YA_1)(a1:Int):Option R:=Fm call k (fun a0_ y0_ v0_1_ v0_3_ v0_5_=>L0 call k a0_ y0_ k v0_1_ v0_3_ v0_5_) a0 a1
theorem L0_eq(call:Cl)(k:Nat)(J:Nat→St→Option R)(a0:YA_1)(a1:Int)(y0:YA_3):∀(n:Nat)(x:YA_4),siteI E call n_impl_inputOf k s_impl_inputOf (a0,a1,()) J 0 n (S0 a0 y0 x.1 x.2.1 x.2.2)=L0 call k a0 y0 n x.1 x.2.1 x.2.2:=by
  refine loop_eq (s:=s_impl_inputOf) (fun x=>S0 a0 y0 x.1 x.2.1 x.2.2) (fun n x=>L0 call k a0 y0 n x.1 x.2.1 x.2.2) (fun r x=>step0 call k a0 y0 (fun v0_1 v0_3 v0_5=>r (v0_1,v0_3,v0_5)) x.1 x.2.1 x.2.2) (fun _=>rfl) (fun _ _=>rfl) fun J0 x=>?_
  kernel_rfl
theorem F_eq(call:Cl)(k:Nat)(a0:YA_1)(a1:Int):bodyK E call n_impl_inputOf k s_impl_inputOf (a0,a1,())=F call k a0 a1:=by
  exact Eq.trans (b:=Fm call k (fun a0 y0 v0_1_ v0_3_ v0_5_=>siteI E call n_impl_inputOf k s_impl_inputOf (a0,a1,()) (fun _ _=>none) 0 k (S0 a0 y0 v0_1_ v0_3_ v0_5_)) a0 a1) (by kernel_rfl) (congrArg (fun l=>Fm call k l a0 a1) (funext fun a0=>funext fun y0=>funext fun v0_1_=>funext fun v0_3_=>funext fun v0_5_=>L0_eq call k (fun _ _=>none) a0 a1 y0 k (v0_1_,v0_3_,v0_5_)))
end impl_inputOf
end Go.Proofs.YtjgfofcgmcnblaaGreat.Pf
