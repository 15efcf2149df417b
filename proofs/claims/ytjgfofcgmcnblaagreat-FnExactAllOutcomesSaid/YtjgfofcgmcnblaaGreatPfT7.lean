/- Printed texts: what the reading of these functions is. No condition. -/
import Derived.Test.YtjgfofcgmcnblaaGreatPvEnv
import Derived.KernelRfl
set_option linter.all false
set_option maxHeartbeats 2000000
namespace Go.Proofs.YtjgfofcgmcnblaaGreat.Pf
open Go Go.Pv IntKind
abbrev Y7_0:Type:=((Int×((List (Int×(Int×Unit)))×((List (Int×(Int×Unit)))×(Int×((List Int)×((List (Int×(Int×((List (Int×(Int×Unit)))×((List (Int×(Int×Unit)))×Unit)))))×Unit)))))))
abbrev Y7_1:Type:=(Int×((List (Int×(Int×Unit)))×((List (Int×(Int×Unit)))×(Int×((List Int)×((List (Int×(Int×((List (Int×(Int×Unit)))×((List (Int×(Int×Unit)))×Unit)))))×Unit))))))
abbrev Y7_2:Type:=(((Int×List Tr×List Tr×Unit)×Bool×Unit)×(List (Int×Int×List (Int×Int×Unit)×List (Int×Int×Unit)×Unit)×Int×Int×Int×Unit)×Unit)
abbrev Y7_3:Type:=(List (Int×(Int×((List (Int×(Int×Unit)))×((List (Int×(Int×Unit)))×Unit)))))
abbrev Y7_4:Type:=(Int×((List Go.Pv.Tr)×((List Go.Pv.Tr)×Unit)))
abbrev Y7_5:Type:=((Int)×((List (List Int))))
abbrev Y7_8:Type:=(List (List Int))
/-! #### spec_StartOf-/
/-! #### impl_within-/
/-! #### impl_startAt-/
namespace impl_startAt
abbrev R:=((((List Int)×((List (List Int))×Unit))×Unit)×Unit)
def S0(a0:Y7_1)(a1:(List Int))(a2:(List Int))(v0_2:Int)(v0_3:Y7_8):St:=⟨mkS 42 [(6,.p [500006] [] 0),(7,.p [500007] [] 0),(27,.v (.slc tI) (a0.2.2.2.2.1)),(28,.v tI ((↑(List.length a0.2.2.2.2.1):Int))),(29,.v tI v0_2)],[([500007,5,1,0],.list 28 (.own 2 tI) v0_3),([500007,5,0],.list 2 tI ([]++a1++a2++List.replicate (Int.toNat a0.2.2.2.1) (Int.ofNat (nat_lit 0)))),([500007],.box (.pr (.ref [500007,5,0]) (.pr (.ref [500007,5,1,0]) (.v .unit ())))),([500006,5,1,0],.list 28 (.own 2 tI) ([])),([500006,5,0],.list 2 tI ([])),([500006],.box (.pr (.ref [500006,5,0]) (.pr (.ref [500006,5,1,0]) (.v .unit ()))))]⟩
def step0(call:Cl)(k:Nat)(a0:Y7_1)(a1:(List Int))(a2:(List Int))(r0:(Int)→(Y7_8)→Option R)(v0_2:Int)(v0_3:Y7_8):Option R:=bif decide (v0_2<(↑(List.length a0.2.2.2.2.1):Int))then bif decide (0≤v0_2)then(lget a0.2.2.2.2.1 v0_2.toNat).bind fun(y0:Int)=>bif decide (y0=y0)&&decide (0≤y0)&&decide (y0*(↑ti2.bytes:Int)≤281474976710656)then bif decide ((v0_3.length+[List.replicate y0.toNat (Int.ofNat (nat_lit 0))].length)*ti28.bytes≤140737488355328)then r0 (i64.wrap (v0_2+1)) (v0_3++[List.replicate y0.toNat (Int.ofNat (nat_lit 0))])else none else none else none else some ((([]++a1++a2++List.replicate (Int.toNat a0.2.2.2.1) (Int.ofNat (nat_lit 0)),v0_3,()),()),())
def L0(call:Cl)(k:Nat)(a0:Y7_1)(a1:(List Int))(a2:(List Int)):Nat→(Int)→(Y7_8)→Option R|0,_,_=>none|n+1,v0_2,v0_3=>step0 call k a0 a1 a2 (L0 call k a0 a1 a2 n) v0_2 v0_3
def Fm(call:Cl)(k:Nat)(l0:Y7_0→((List Int))→((List Int))→(Int)→(Y7_8)→Option R)(a0:Y7_1)(a1:(List Int))(a2:(List Int)):Option R:=bif decide ((0+a1.length)*ti2.bytes≤140737488355328)then bif decide ((([]++a1).length+a2.length)*ti2.bytes≤140737488355328)then bif decide (0≤a0.2.2.2.1)&&decide ((([]++a1++a2).length+Int.toNat a0.2.2.2.1)*ti2.bytes≤140737488355328)then l0 a0 a1 a2 0 []else none else none else none
def F(call:Cl)(k:Nat)(a0:Y7_1)(a1:(List Int))(a2:(List Int)):Option R:=Fm call k (fun a0_ a1_ a2_ v0_2_ v0_3_=>L0 call k a0_ a1_ a2_ k v0_2_ v0_3_) a0 a1 a2
theorem L0_eq(call:Cl)(k:Nat)(J:Nat→St→Option R)(a0:Y7_1)(a1:(List Int))(a2:(List Int)):∀(n:Nat)(x:Y7_5),siteI E call n_impl_startAt k s_impl_startAt (a0,a1,a2,()) J 0 n (S0 a0 a1 a2 x.1 x.2)=L0 call k a0 a1 a2 n x.1 x.2:=by
  refine loop_eq (s:=s_impl_startAt) (fun x=>S0 a0 a1 a2 x.1 x.2) (fun n x=>L0 call k a0 a1 a2 n x.1 x.2) (fun r x=>step0 call k a0 a1 a2 (fun v0_2 v0_3=>r (v0_2,v0_3)) x.1 x.2) (fun _=>rfl) (fun _ _=>rfl) fun J0 x=>?_
  kernel_rfl
theorem F_eq(call:Cl)(k:Nat)(a0:Y7_1)(a1:(List Int))(a2:(List Int)):bodyK E call n_impl_startAt k s_impl_startAt (a0,a1,a2,())=F call k a0 a1 a2:=by
  exact Eq.trans (b:=Fm call k (fun a0 a1 a2 v0_2_ v0_3_=>siteI E call n_impl_startAt k s_impl_startAt (a0,a1,a2,()) (fun _ _=>none) 0 k (S0 a0 a1 a2 v0_2_ v0_3_)) a0 a1 a2) (by kernel_rfl) (congrArg (fun l=>Fm call k l a0 a1 a2) (funext fun a0=>funext fun a1=>funext fun a2=>funext fun v0_2_=>funext fun v0_3_=>L0_eq call k (fun _ _=>none) a0 a1 a2 k (v0_2_,v0_3_)))
end impl_startAt
/-! #### impl_StartOf-/
/-! #### impl_EndOf-/
namespace impl_EndOf
abbrev R:=((Int×(Int×Unit))×Unit)
def Fm(call:Cl)(k:Nat)(a0:Y7_3)(a1:Int):Option R:=bif decide ((↑a0.length:Int)>40)then some (((-1),(-1),()),())else bif decide (a1<0)then some (((-1),(-1),()),())else bif decide (a1≥(↑a0.length:Int))then some (((-1),(-1),()),())else bif decide (0≤a1)then(lget a0 a1.toNat).bind fun(y0:(Int×Int×List (Int×Int×Unit)×List (Int×Int×Unit)×Unit))=>bif y0.1!=2 then bif y0.1!=5 then bif y0.1!=8 then some (((-1),(-1),()),())else(call 242 s_impl_nester_one ((a0,a1,0,0,()),())).bind fun(y1:Y7_2)=>bif !y1.1.2.1 then some (((-1),(-1),()),())else some ((y1.2.1.2.2.1,y1.2.1.2.2.2.1,()),())else(call 242 s_impl_nester_one ((a0,a1,0,0,()),())).bind fun(y2:Y7_2)=>bif !y2.1.2.1 then some (((-1),(-1),()),())else some ((y2.2.1.2.2.1,y2.2.1.2.2.2.1,()),())else(call 242 s_impl_nester_one ((a0,a1,0,0,()),())).bind fun(y3:Y7_2)=>bif !y3.1.2.1 then some (((-1),(-1),()),())else some ((y3.2.1.2.2.1,y3.2.1.2.2.2.1,()),())else none
def F(call:Cl)(k:Nat)(a0:Y7_3)(a1:Int):Option R:=Fm call k a0 a1
theorem F_eq(call:Cl)(k:Nat)(a0:Y7_3)(a1:Int):bodyK E call n_impl_EndOf k s_impl_EndOf (a0,a1,())=F call k a0 a1:=by kernel_rfl
end impl_EndOf
/-! #### impl_catchOf-/
namespace impl_catchOf
abbrev R:=((Int×Unit)×Unit)
def Fm(call:Cl)(k:Nat)(a0:Y7_1)(a1:Y7_4):Option R:=(call 253 s_impl_EndOf (a0.2.2.2.2.2.1,a1.1,())).bind fun(y0:((Int×Int×Unit)×Unit))=>bif decide (0≤y0.1.1)then(lget a0.2.2.2.2.2.1 (Int.toNat y0.1.1)).bind fun(y1:(Int×Int×List (Int×Int×Unit)×List (Int×Int×Unit)×Unit))=>some ((y1.2.1,()),())else none
def F(call:Cl)(k:Nat)(a0:Y7_1)(a1:Y7_4):Option R:=Fm call k a0 a1
theorem F_eq(call:Cl)(k:Nat)(a0:Y7_1)(a1:Y7_4):bodyK E call n_impl_catchOf k s_impl_catchOf (a0,a1,())=F call k a0 a1:=by kernel_rfl
end impl_catchOf
end Go.Proofs.YtjgfofcgmcnblaaGreat.Pf
