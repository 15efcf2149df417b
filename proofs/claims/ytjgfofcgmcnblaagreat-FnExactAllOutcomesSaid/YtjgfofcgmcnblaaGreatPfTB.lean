/- Printed texts: what the reading of these functions is. No condition. -/
import Derived.Test.YtjgfofcgmcnblaaGreatPvEnv
import Derived.KernelRfl
set_option linter.all false
set_option maxHeartbeats 2000000
namespace Go.Proofs.YtjgfofcgmcnblaaGreat.Pf
open Go Go.Pv IntKind
abbrev YB_0:Type:=((Option (List (ByteArray×Int)))×((List ((List Int)×(Int×(Int×Unit))))×((List Int)×Unit)))
abbrev YB_1:Type:=((List ((List Int)×(Int×(Int×Unit)))))
abbrev YB_2:Type:=(List ((List Int)×(Int×(Int×Unit))))
abbrev YB_3:Type:=(((List Int)×(Int×(Int×Unit))))
abbrev YB_4:Type:=((List Int)×(Int×(Int×Unit)))
abbrev YB_5:Type:=(List Int×Int×Int×Unit)
/-! #### spec_LikeOutcomes-/
namespace spec_LikeOutcomes
abbrev R:=((Bool×Unit)×Unit)
def S0(a0:YB_4)(a1:YB_4)(v0_0:Int):St:=⟨mkS 45 [(2,.p [500002] [] 0),(3,.p [500003] [] 0),(5,.v tI v0_0)],[([500003],.box (.v (.pair (.slc tI) tTm) ((a1.1),((a1.2.1),((a1.2.2.1),()))))),([500002],.box (.v (.pair (.slc tI) tTm) ((a0.1),((a0.2.1),((a0.2.2.1),())))))]⟩
def step0(call:Cl)(k:Nat)(a0:YB_4)(a1:YB_4)(r0:(Int)→Option R)(v0_0:Int):Option R:=bif decide (v0_0<(↑a0.1.length:Int))then bif decide (0≤v0_0)then(lget a0.1 v0_0.toNat).bind fun(y0:Int)=>bif decide (0≤v0_0)then(lget a1.1 v0_0.toNat).bind fun(y1:Int)=>bif y0 !=y1 then some ((false,()),())else r0 (i64.wrap (v0_0+1))else none else none else some ((true,()),())
def L0(call:Cl)(k:Nat)(a0:YB_4)(a1:YB_4):Nat→(Int)→Option R|0,_=>none|n+1,v0_0=>step0 call k a0 a1 (L0 call k a0 a1 n) v0_0
def Fm(call:Cl)(k:Nat)(l0:YB_3→YB_3→(Int)→Option R)(a0:YB_4)(a1:YB_4):Option R:=bif(↑(List.length a0.1):Int)!=(↑(List.length a1.1):Int)then some ((false,()),())else bif a0.2.1!=a1.2.1 then some ((false,()),())else bif a0.2.2.1!=a1.2.2.1 then some ((false,()),())else l0 a0 a1 0
def F(call:Cl)(k:Nat)(a0:YB_4)(a1:YB_4):Option R:=Fm call k (fun a0_ a1_ v0_0_=>L0 call k a0_ a1_ k v0_0_) a0 a1
theorem L0_eq(call:Cl)(k:Nat)(J:Nat→St→Option R)(a0:YB_4)(a1:YB_4):∀(n:Nat)(x:(Int)),siteI E call n_spec_LikeOutcomes k s_spec_LikeOutcomes (a0,a1,()) J 0 n (S0 a0 a1 x)=L0 call k a0 a1 n x:=by
  refine loop_eq (s:=s_spec_LikeOutcomes) (fun x=>S0 a0 a1 x) (fun n x=>L0 call k a0 a1 n x) (fun r x=>step0 call k a0 a1 (fun v0_0=>r v0_0) x) (fun _=>rfl) (fun _ _=>rfl) fun J0 x=>?_
  kernel_rfl
theorem F_eq(call:Cl)(k:Nat)(a0:YB_4)(a1:YB_4):bodyK E call n_spec_LikeOutcomes k s_spec_LikeOutcomes (a0,a1,())=F call k a0 a1:=by
  exact Eq.trans (b:=Fm call k (fun a0 a1 v0_0_=>siteI E call n_spec_LikeOutcomes k s_spec_LikeOutcomes (a0,a1,()) (fun _ _=>none) 0 k (S0 a0 a1 v0_0_)) a0 a1) (by kernel_rfl) (congrArg (fun l=>Fm call k l a0 a1) (funext fun a0=>funext fun a1=>funext fun v0_0_=>L0_eq call k (fun _ _=>none) a0 a1 k v0_0_))
end spec_LikeOutcomes
/-! #### spec_l8In-/
namespace spec_l8In
abbrev R:=((Bool×Unit)×Unit)
def S0(a0:YB_2)(a1:YB_4)(v0_1:Int):St:=⟨mkS 18 [(0,.v (.slc (.pair (.slc tI) tTm)) (a0)),(3,.p [500003] [] 0),(5,.v tI v0_1)],[([500003],.box (.v (.pair (.slc tI) tTm) ((a1.1),((a1.2.1),((a1.2.2.1),())))))]⟩
def step0(call:Cl)(k:Nat)(a0:YB_2)(a1:YB_4)(r0:(Int)→Option R)(v0_1:Int):Option R:=bif decide (v0_1<(↑a0.length:Int))then bif decide (0≤v0_1)then(lget a0 v0_1.toNat).bind fun(y0:YB_5)=>(call 143 s_spec_LikeOutcomes (y0,(a1.1,a1.2.1,a1.2.2.1,()),())).bind fun(y1:(Bool×Unit)×Unit)=>bif y1.1.1 then some ((true,()),())else r0 (i64.wrap (v0_1+1))else none else some ((false,()),())
def L0(call:Cl)(k:Nat)(a0:YB_2)(a1:YB_4):Nat→(Int)→Option R|0,_=>none|n+1,v0_1=>step0 call k a0 a1 (L0 call k a0 a1 n) v0_1
def Fm(call:Cl)(k:Nat)(l0:YB_1→YB_3→(Int)→Option R)(a0:YB_2)(a1:YB_4):Option R:=l0 a0 a1 0
def F(call:Cl)(k:Nat)(a0:YB_2)(a1:YB_4):Option R:=Fm call k (fun a0_ a1_ v0_1_=>L0 call k a0_ a1_ k v0_1_) a0 a1
theorem L0_eq(call:Cl)(k:Nat)(J:Nat→St→Option R)(a0:YB_2)(a1:YB_4):∀(n:Nat)(x:(Int)),siteI E call n_spec_l8In k s_spec_l8In (a0,a1,()) J 0 n (S0 a0 a1 x)=L0 call k a0 a1 n x:=by
  refine loop_eq (s:=s_spec_l8In) (fun x=>S0 a0 a1 x) (fun n x=>L0 call k a0 a1 n x) (fun r x=>step0 call k a0 a1 (fun v0_1=>r v0_1) x) (fun _=>rfl) (fun _ _=>rfl) fun J0 x=>?_
  kernel_rfl
theorem F_eq(call:Cl)(k:Nat)(a0:YB_2)(a1:YB_4):bodyK E call n_spec_l8In k s_spec_l8In (a0,a1,())=F call k a0 a1:=by
  exact Eq.trans (b:=Fm call k (fun a0 a1 v0_1_=>siteI E call n_spec_l8In k s_spec_l8In (a0,a1,()) (fun _ _=>none) 0 k (S0 a0 a1 v0_1_)) a0 a1) (by kernel_rfl) (congrArg (fun l=>Fm call k l a0 a1) (funext fun a0=>funext fun a1=>funext fun v0_1_=>L0_eq call k (fun _ _=>none) a0 a1 k v0_1_))
end spec_l8In
/-! #### spec_l8Different-/
namespace spec_l8Different
abbrev R:=(((List ((List Int)×(Int×(Int×Unit))))×Unit)×Unit)
def S0(a0:YB_2)(v0_1:Int)(v0_2:YB_2):St:=⟨mkS 27 [(0,.v (.slc (.pair (.slc tI) tTm)) (a0)),(3,.ref [500003]),(4,.v tI v0_1)],[([500003],.list 38 (.pair (.slc tI) tTm) v0_2)]⟩
def step0(call:Cl)(k:Nat)(a0:YB_2)(r0:(Int)→YB_1→Option R)(v0_1:Int)(v0_2:YB_2):Option R:=bif decide (v0_1<(↑a0.length:Int))then bif decide (0≤v0_1)then(lget a0 v0_1.toNat).bind fun(y0:YB_5)=>(call 169 s_spec_l8In (v0_2,y0,())).bind fun(y1:(Bool×Unit)×Unit)=>bif !y1.1.1 then bif decide (0≤v0_1)then(lget a0 v0_1.toNat).bind fun(y2:YB_5)=>bif decide ((v0_2.length+[y2].length)*ti38.bytes≤140737488355328)then r0 (i64.wrap (v0_1+1)) (v0_2++[y2])else none else none else r0 (i64.wrap (v0_1+1)) v0_2 else none else some ((v0_2,()),())
def L0(call:Cl)(k:Nat)(a0:YB_2):Nat→(Int)→YB_1→Option R|0,_,_=>none|n+1,v0_1,v0_2=>step0 call k a0 (L0 call k a0 n) v0_1 v0_2
def Fm(call:Cl)(k:Nat)(l0:YB_1→(Int)→YB_1→Option R)(a0:YB_2):Option R:=l0 a0 0 []
def F(call:Cl)(k:Nat)(a0:YB_2):Option R:=Fm call k (fun a0_ v0_1_ v0_2_=>L0 call k a0_ k v0_1_ v0_2_) a0
theorem L0_eq(call:Cl)(k:Nat)(J:Nat→St→Option R)(a0:YB_2):∀(n:Nat)(x:((Int)×YB_1)),siteI E call n_spec_l8Different k s_spec_l8Different (a0,()) J 0 n (S0 a0 x.1 x.2)=L0 call k a0 n x.1 x.2:=by
  refine loop_eq (s:=s_spec_l8Different) (fun x=>S0 a0 x.1 x.2) (fun n x=>L0 call k a0 n x.1 x.2) (fun r x=>step0 call k a0 (fun v0_1 v0_2=>r (v0_1,v0_2)) x.1 x.2) (fun _=>rfl) (fun _ _=>rfl) fun J0 x=>?_
  kernel_rfl
theorem F_eq(call:Cl)(k:Nat)(a0:YB_2):bodyK E call n_spec_l8Different k s_spec_l8Different (a0,())=F call k a0:=by
  exact Eq.trans (b:=Fm call k (fun a0 v0_1_ v0_2_=>siteI E call n_spec_l8Different k s_spec_l8Different (a0,()) (fun _ _=>none) 0 k (S0 a0 v0_1_ v0_2_)) a0) (by kernel_rfl) (congrArg (fun l=>Fm call k l a0) (funext fun a0=>funext fun v0_1_=>funext fun v0_2_=>L0_eq call k (fun _ _=>none) a0 k (v0_1_,v0_2_)))
end spec_l8Different
/-! #### impl_keyOf-/
namespace impl_keyOf
abbrev R:=((ByteArray×Unit)×Unit)
def S0(a0:YB_4)(v0_2:Int)(v0_3:(List Int)):St:=⟨mkS 30 [(1,.p [500001] [] 0),(3,.ref [500003]),(8,.v (.slc tI) (a0.1)),(9,.v tI ((↑(List.length a0.1):Int))),(10,.v tI v0_2)],[([500003],.list 5 (.int .u8) v0_3),([500001],.box (.v (.pair (.slc tI) tTm) ((a0.1),((a0.2.1),((a0.2.2.1),())))))]⟩
def step0(call:Cl)(k:Nat)(a0:YB_4)(r0:(Int)→((List Int))→Option R)(v0_2:Int)(v0_3:(List Int)):Option R:=bif decide (v0_2<(↑(List.length a0.1):Int))then bif decide (0≤v0_2)then(lget a0.1 v0_2.toNat).bind fun(y0:Int)=>bif decide ((v0_3.length+[IntKind.u8.wrap y0].length)*ti5.bytes≤140737488355328)then r0 (i64.wrap (v0_2+1)) (v0_3++[IntKind.u8.wrap y0])else none else none else bif decide ((v0_3.length+[IntKind.u8.wrap a0.2.1,IntKind.u8.wrap a0.2.2.1].length)*ti5.bytes≤140737488355328)then some ((bytesOf (v0_3++[IntKind.u8.wrap a0.2.1,IntKind.u8.wrap a0.2.2.1]),()),())else none
def L0(call:Cl)(k:Nat)(a0:YB_4):Nat→(Int)→((List Int))→Option R|0,_,_=>none|n+1,v0_2,v0_3=>step0 call k a0 (L0 call k a0 n) v0_2 v0_3
def Fm(call:Cl)(k:Nat)(l0:YB_3→(Int)→((List Int))→Option R)(a0:YB_4):Option R:=l0 a0 0 []
def F(call:Cl)(k:Nat)(a0:YB_4):Option R:=Fm call k (fun a0_ v0_2_ v0_3_=>L0 call k a0_ k v0_2_ v0_3_) a0
theorem L0_eq(call:Cl)(k:Nat)(J:Nat→St→Option R)(a0:YB_4):∀(n:Nat)(x:((Int)×((List Int)))),siteI E call n_impl_keyOf k s_impl_keyOf (a0,()) J 0 n (S0 a0 x.1 x.2)=L0 call k a0 n x.1 x.2:=by
  refine loop_eq (s:=s_impl_keyOf) (fun x=>S0 a0 x.1 x.2) (fun n x=>L0 call k a0 n x.1 x.2) (fun r x=>step0 call k a0 (fun v0_2 v0_3=>r (v0_2,v0_3)) x.1 x.2) (fun _=>rfl) (fun _ _=>rfl) fun J0 x=>?_
  kernel_rfl
theorem F_eq(call:Cl)(k:Nat)(a0:YB_4):bodyK E call n_impl_keyOf k s_impl_keyOf (a0,())=F call k a0:=by
  exact Eq.trans (b:=Fm call k (fun a0 v0_2_ v0_3_=>siteI E call n_impl_keyOf k s_impl_keyOf (a0,()) (fun _ _=>none) 0 k (S0 a0 v0_2_ v0_3_)) a0) (by kernel_rfl) (congrArg (fun l=>Fm call k l a0) (funext fun a0=>funext fun v0_2_=>funext fun v0_3_=>L0_eq call k (fun _ _=>none) a0 k (v0_2_,v0_3_)))
end impl_keyOf
/-! #### impl_tally_add-/
namespace impl_tally_add
abbrev R:=(Unit×(((Option (List (ByteArray×Int)))×((List ((List Int)×(Int×(Int×Unit))))×((List Int)×Unit)))×Unit))
def Fm(call:Cl)(k:Nat)(a0:YB_0)(a1:YB_4):Option R:=bif Option.isNone a0.1 then(call 214 s_impl_keyOf (a1,())).bind fun(y0:((ByteArray×Unit)×Unit))=>bif !(mfind (β:=Int) ti9.zero.t ((some []).getD []) y0.1.1).isSome then bif decide ((List.length a0.2.1+[a1].length)*ti38.bytes≤140737488355328)then bif decide ((List.length a0.2.2.1+[(0:Int)].length)*ti2.bytes≤140737488355328)then bif decide (0≤(↑(List.length a0.2.1):Int))&&decide ((↑(List.length a0.2.1):Int).toNat<(a0.2.2.1++[(0:Int)]).length)then(lget (a0.2.2.1++[(0:Int)]) (↑(List.length a0.2.1):Int).toNat).bind fun(y1:Int)=>bif decide (0≤(↑(List.length a0.2.1):Int))&&decide ((↑(List.length a0.2.1):Int).toNat<(a0.2.2.1++[(0:Int)]).length)then(lget (a0.2.2.1++[(0:Int)]) (↑(List.length a0.2.1):Int).toNat).bind fun(y2:Int)=>some ((),(some (mput ti9.zero.t [] y0.1.1 (↑(List.length a0.2.1):Int)),a0.2.1++[a1],(a0.2.2.1++[(0:Int)]).set (↑(List.length a0.2.1):Int).toNat (i64.wrap (y1+1)),a0.2.2.2),())else none else none else none else none else bif decide (0≤(mfind (β:=Int) ti9.zero.t ((some []).getD []) y0.1.1).getD (Int.ofNat (nat_lit 0)))&&decide (((mfind (β:=Int) ti9.zero.t ((some []).getD []) y0.1.1).getD (Int.ofNat (nat_lit 0))).toNat<List.length a0.2.2.1)then(lget a0.2.2.1 ((mfind (β:=Int) ti9.zero.t ((some []).getD []) y0.1.1).getD (Int.ofNat (nat_lit 0))).toNat).bind fun(y3:Int)=>bif decide (0≤(mfind (β:=Int) ti9.zero.t ((some []).getD []) y0.1.1).getD (Int.ofNat (nat_lit 0)))&&decide (((mfind (β:=Int) ti9.zero.t ((some []).getD []) y0.1.1).getD (Int.ofNat (nat_lit 0))).toNat<List.length a0.2.2.1)then(lget a0.2.2.1 ((mfind (β:=Int) ti9.zero.t ((some []).getD []) y0.1.1).getD (Int.ofNat (nat_lit 0))).toNat).bind fun(y4:Int)=>some ((),(some [],a0.2.1,List.set a0.2.2.1 ((mfind (β:=Int) ti9.zero.t ((some []).getD []) y0.1.1).getD (Int.ofNat (nat_lit 0))).toNat (i64.wrap (y3+1)),a0.2.2.2),())else none else none else(call 214 s_impl_keyOf (a1,())).bind fun(y5:((ByteArray×Unit)×Unit))=>bif !(mfind Ty.str (Option.getD a0.1 []) y5.1.1).isSome then a0.1.bind fun(y6:List (ByteArray×Int))=>bif decide ((List.length a0.2.1+[a1].length)*ti38.bytes≤140737488355328)then bif decide ((List.length a0.2.2.1+[(0:Int)].length)*ti2.bytes≤140737488355328)then bif decide (0≤(↑(List.length a0.2.1):Int))&&decide ((↑(List.length a0.2.1):Int).toNat<(a0.2.2.1++[(0:Int)]).length)then(lget (a0.2.2.1++[(0:Int)]) (↑(List.length a0.2.1):Int).toNat).bind fun(y7:Int)=>bif decide (0≤(↑(List.length a0.2.1):Int))&&decide ((↑(List.length a0.2.1):Int).toNat<(a0.2.2.1++[(0:Int)]).length)then(lget (a0.2.2.1++[(0:Int)]) (↑(List.length a0.2.1):Int).toNat).bind fun(y8:Int)=>some ((),(some (mput Ty.str y6 y5.1.1 (↑(List.length a0.2.1):Int)),a0.2.1++[a1],(a0.2.2.1++[(0:Int)]).set (↑(List.length a0.2.1):Int).toNat (i64.wrap (y7+1)),a0.2.2.2),())else none else none else none else none else bif decide (0≤(mfind Ty.str (Option.getD a0.1 []) y5.1.1).getD (Int.ofNat (nat_lit 0)))&&decide (((mfind Ty.str (Option.getD a0.1 []) y5.1.1).getD (Int.ofNat (nat_lit 0))).toNat<List.length a0.2.2.1)then(lget a0.2.2.1 ((mfind Ty.str (Option.getD a0.1 []) y5.1.1).getD (Int.ofNat (nat_lit 0))).toNat).bind fun(y9:Int)=>bif decide (0≤(mfind Ty.str (Option.getD a0.1 []) y5.1.1).getD (Int.ofNat (nat_lit 0)))&&decide (((mfind Ty.str (Option.getD a0.1 []) y5.1.1).getD (Int.ofNat (nat_lit 0))).toNat<List.length a0.2.2.1)then(lget a0.2.2.1 ((mfind Ty.str (Option.getD a0.1 []) y5.1.1).getD (Int.ofNat (nat_lit 0))).toNat).bind fun(y10:Int)=>some ((),(a0.1,a0.2.1,List.set a0.2.2.1 ((mfind Ty.str (Option.getD a0.1 []) y5.1.1).getD (Int.ofNat (nat_lit 0))).toNat (i64.wrap (y9+1)),a0.2.2.2),())else none else none
def F(call:Cl)(k:Nat)(a0:YB_0)(a1:YB_4):Option R:=Fm call k a0 a1
theorem F_eq(call:Cl)(k:Nat)(a0:YB_0)(a1:YB_4):bodyK E call n_impl_tally_add k s_impl_tally_add (a0,a1,())=F call k a0 a1:=by kernel_rfl
end impl_tally_add
end Go.Proofs.YtjgfofcgmcnblaaGreat.Pf
