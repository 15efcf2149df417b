/- Printed texts: what the reading of these functions is. No condition. -/
import Derived.Test.YtjgfofcgmcnblaaGreatPvEnv
import Derived.KernelRfl
set_option linter.all false
set_option maxHeartbeats 2000000
namespace Go.Proofs.YtjgfofcgmcnblaaGreat.Pf
open Go Go.Pv IntKind
abbrev Y1_0:Type:=((Int×((List (Int×(Int×Unit)))×((List (Int×(Int×Unit)))×(Int×((List Int)×((List (Int×(Int×((List (Int×(Int×Unit)))×((List (Int×(Int×Unit)))×Unit)))))×Unit)))))))
abbrev Y1_1:Type:=(Int×((List (Int×(Int×Unit)))×((List (Int×(Int×Unit)))×(Int×((List Int)×((List (Int×(Int×((List (Int×(Int×Unit)))×((List (Int×(Int×Unit)))×Unit)))))×Unit))))))
abbrev Y1_2:Type:=(Int×(Int×((List (Int×(Int×Unit)))×((List (Int×(Int×Unit)))×Unit))))
abbrev Y1_3:Type:=((List (Int×(Int×Unit))))
abbrev Y1_4:Type:=(List (Int×(Int×Unit)))
abbrev Y1_5:Type:=((Int)×(Int))
abbrev Y1_6:Type:=(Bool×Unit)
abbrev Y1_7:Type:=(Int×Unit)
/-! #### impl_TakesOf-/
namespace impl_TakesOf
abbrev R:=((Int×Unit)×Unit)
def Fm(call:Cl)(k:Nat)(a0:Int):Option R:=bif a0==0 then some ((0,()),())else bif a0==1 then some ((0,()),())else bif a0==2 then some ((1,()),())else bif a0==3 then some ((1,()),())else bif a0==4 then some ((1,()),())else bif decide (a0≥5)then bif decide (a0≤16)then some ((2,()),())else bif a0==17 then some ((3,()),())else some (((-1),()),())else bif a0==17 then some ((3,()),())else some (((-1),()),())
def F(call:Cl)(k:Nat)(a0:Int):Option R:=Fm call k a0
theorem F_eq(call:Cl)(k:Nat)(a0:Int):bodyK E call n_impl_TakesOf k s_impl_TakesOf (a0,())=F call k a0:=by kernel_rfl
end impl_TakesOf
/-! #### impl_ExpOk-/
namespace impl_ExpOk
abbrev R:=((Bool×Unit)×Unit)
def S0(a0:Y1_4)(v0_0:Int)(v0_3:Int):St:=⟨mkS 58 [(3,.v tI v0_0),(15,.v tTl (a0)),(16,.v tI ((↑a0.length:Int))),(17,.v tI v0_3)],[]⟩
def step0(call:Cl)(k:Nat)(a0:Y1_4)(r0:(Int)→(Int)→Option R)(v0_0:Int)(v0_3:Int):Option R:=bif decide (v0_3<(↑a0.length:Int))then bif decide (0≤v0_3)then(lget a0 v0_3.toNat).bind fun(y0:Int×Int×Unit)=>(call 258 s_impl_TakesOf (y0.1,())).bind fun(y1:Y1_7×Unit)=>bif decide (y1.1.1<0)then some ((false,()),())else bif decide (y1.1.1>v0_0)then some ((false,()),())else bif decide (y0.2.1<0)then some ((false,()),())else bif decide (y0.2.1>255)then some ((false,()),())else bif decide (y0.1>2)then bif y0.2.1!=0 then some ((false,()),())else r0 (i64.wrap (v0_0+i64.wrap (1-y1.1.1))) (i64.wrap (v0_3+1))else r0 (i64.wrap (v0_0+i64.wrap (1-y1.1.1))) (i64.wrap (v0_3+1))else none else some ((v0_0==1,()),())
def L0(call:Cl)(k:Nat)(a0:Y1_4):Nat→(Int)→(Int)→Option R|0,_,_=>none|n+1,v0_0,v0_3=>step0 call k a0 (L0 call k a0 n) v0_0 v0_3
def Fm(call:Cl)(k:Nat)(l0:Y1_3→(Int)→(Int)→Option R)(a0:Y1_4):Option R:=bif(↑a0.length:Int)==0 then some ((false,()),())else bif decide ((↑a0.length:Int)>3000)then some ((false,()),())else l0 a0 0 0
def F(call:Cl)(k:Nat)(a0:Y1_4):Option R:=Fm call k (fun a0_ v0_0_ v0_3_=>L0 call k a0_ k v0_0_ v0_3_) a0
theorem L0_eq(call:Cl)(k:Nat)(J:Nat→St→Option R)(a0:Y1_4):∀(n:Nat)(x:Y1_5),siteI E call n_impl_ExpOk k s_impl_ExpOk (a0,()) J 0 n (S0 a0 x.1 x.2)=L0 call k a0 n x.1 x.2:=by
  refine loop_eq (s:=s_impl_ExpOk) (fun x=>S0 a0 x.1 x.2) (fun n x=>L0 call k a0 n x.1 x.2) (fun r x=>step0 call k a0 (fun v0_0 v0_3=>r (v0_0,v0_3)) x.1 x.2) (fun _=>rfl) (fun _ _=>rfl) fun J0 x=>?_
  kernel_rfl
theorem F_eq(call:Cl)(k:Nat)(a0:Y1_4):bodyK E call n_impl_ExpOk k s_impl_ExpOk (a0,())=F call k a0:=by
  exact Eq.trans (b:=Fm call k (fun a0 v0_0_ v0_3_=>siteI E call n_impl_ExpOk k s_impl_ExpOk (a0,()) (fun _ _=>none) 0 k (S0 a0 v0_0_ v0_3_)) a0) (by kernel_rfl) (congrArg (fun l=>Fm call k l a0) (funext fun a0=>funext fun v0_0_=>funext fun v0_3_=>L0_eq call k (fun _ _=>none) a0 k (v0_0_,v0_3_)))
end impl_ExpOk
/-! #### impl_bitsOf-/
namespace impl_bitsOf
abbrev R:=((Int×Unit)×Unit)
def S0(v0_0:Int)(v0_1:Int):St:=⟨mkS 11 [(0,.v tI v0_0),(3,.v tI v0_1)],[]⟩
def step0(call:Cl)(k:Nat)(r0:(Int)→(Int)→Option R)(v0_0:Int)(v0_1:Int):Option R:=bif decide (v0_0>0)then r0 (i64.wrap (v0_0.tdiv 2)) (i64.wrap (v0_1+1))else some ((v0_1,()),())
def L0(call:Cl)(k:Nat):Nat→(Int)→(Int)→Option R|0,_,_=>none|n+1,v0_0,v0_1=>step0 call k (L0 call k n) v0_0 v0_1
def Fm(call:Cl)(k:Nat)(l0:(Int)→(Int)→Option R)(a0:Int):Option R:=l0 a0 0
def F(call:Cl)(k:Nat)(a0:Int):Option R:=Fm call k (fun v0_0_ v0_1_=>L0 call k k v0_0_ v0_1_) a0
theorem L0_eq(call:Cl)(k:Nat)(J:Nat→St→Option R)(a0:Int):∀(n:Nat)(x:Y1_5),siteI E call n_impl_bitsOf k s_impl_bitsOf (a0,()) J 0 n (S0 x.1 x.2)=L0 call k n x.1 x.2:=by
  refine loop_eq (s:=s_impl_bitsOf) (fun x=>S0 x.1 x.2) (fun n x=>L0 call k n x.1 x.2) (fun r x=>step0 call k (fun v0_0 v0_1=>r (v0_0,v0_1)) x.1 x.2) (fun _=>rfl) (fun _ _=>rfl) fun J0 x=>?_
  kernel_rfl
theorem F_eq(call:Cl)(k:Nat)(a0:Int):bodyK E call n_impl_bitsOf k s_impl_bitsOf (a0,())=F call k a0:=by
  exact Eq.trans (b:=Fm call k (fun v0_0_ v0_1_=>siteI E call n_impl_bitsOf k s_impl_bitsOf (a0,()) (fun _ _=>none) 0 k (S0 v0_0_ v0_1_)) a0) (by kernel_rfl) (congrArg (fun l=>Fm call k l a0) (funext fun v0_0_=>funext fun v0_1_=>L0_eq call k (fun _ _=>none) a0 k (v0_0_,v0_1_)))
end impl_bitsOf
/-! #### impl_greatest-/
namespace impl_greatest
abbrev R:=((Int×Unit)×Unit)
def Fm(call:Cl)(k:Nat)(a0:Y1_1):Option R:=bif decide (a0.1<0)then none else some ((i64.wrap (shlI .i64 1 a0.1-1),()),())
def F(call:Cl)(k:Nat)(a0:Y1_1):Option R:=Fm call k a0
theorem F_eq(call:Cl)(k:Nat)(a0:Y1_1):bodyK E call n_impl_greatest k s_impl_greatest (a0,())=F call k a0:=by kernel_rfl
end impl_greatest
/-! #### impl_inputsOf-/
namespace impl_inputsOf
abbrev R:=((Int×Unit)×Unit)
def Fm(call:Cl)(k:Nat)(a0:Y1_1):Option R:=some ((i64.wrap ((↑(List.length a0.2.1):Int)+(↑(List.length a0.2.2.1):Int)),()),())
def F(call:Cl)(k:Nat)(a0:Y1_1):Option R:=Fm call k a0
theorem F_eq(call:Cl)(k:Nat)(a0:Y1_1):bodyK E call n_impl_inputsOf k s_impl_inputsOf (a0,())=F call k a0:=by kernel_rfl
end impl_inputsOf
/-! #### impl_varsOf-/
namespace impl_varsOf
abbrev R:=((Int×Unit)×Unit)
def Fm(call:Cl)(k:Nat)(a0:Y1_1):Option R:=(call 225 s_impl_inputsOf (a0,())).bind fun(y0:Y1_7×Unit)=>some ((i64.wrap (y0.1.1+a0.2.2.2.1),()),())
def F(call:Cl)(k:Nat)(a0:Y1_1):Option R:=Fm call k a0
theorem F_eq(call:Cl)(k:Nat)(a0:Y1_1):bodyK E call n_impl_varsOf k s_impl_varsOf (a0,())=F call k a0:=by kernel_rfl
end impl_varsOf
/-! #### impl_reckonable-/
namespace impl_reckonable
abbrev R:=((Bool×Unit)×Unit)
def S0(a0:Y1_1)(a1:Y1_4)(v0_3:Int):St:=⟨mkS 43 [(0,.v (.sptr tPg) (a0)),(10,.v tTl (a1)),(11,.v tI ((↑a1.length:Int))),(12,.v tI v0_3)],[]⟩
def step0(call:Cl)(k:Nat)(a0:Y1_1)(a1:Y1_4)(r0:(Int)→Option R)(v0_3:Int):Option R:=bif decide (v0_3<(↑a1.length:Int))then bif decide (0≤v0_3)then(lget a1 v0_3.toNat).bind fun(y1:Int×Int×Unit)=>bif y1.1==0 then(call 224 s_impl_greatest (a0,())).bind fun(y2:Y1_7×Unit)=>bif decide (y1.2.1>y2.1.1)then some ((false,()),())else r0 (i64.wrap (v0_3+1))else bif y1.1==1 then(call 226 s_impl_varsOf (a0,())).bind fun(y3:Y1_7×Unit)=>bif decide (y1.2.1≥y3.1.1)then some ((false,()),())else r0 (i64.wrap (v0_3+1))else bif y1.1==2 then bif decide (y1.2.1≥(↑(List.length a0.2.2.2.2.1):Int))then some ((false,()),())else r0 (i64.wrap (v0_3+1))else r0 (i64.wrap (v0_3+1))else none else some ((true,()),())
def L0(call:Cl)(k:Nat)(a0:Y1_1)(a1:Y1_4):Nat→(Int)→Option R|0,_=>none|n+1,v0_3=>step0 call k a0 a1 (L0 call k a0 a1 n) v0_3
def Fm(call:Cl)(k:Nat)(l0:Y1_0→Y1_3→(Int)→Option R)(a0:Y1_1)(a1:Y1_4):Option R:=(call 257 s_impl_ExpOk (a1,())).bind fun(y0:Y1_6×Unit)=>bif !y0.1.1 then some ((false,()),())else l0 a0 a1 0
def F(call:Cl)(k:Nat)(a0:Y1_1)(a1:Y1_4):Option R:=Fm call k (fun a0_ a1_ v0_3_=>L0 call k a0_ a1_ k v0_3_) a0 a1
theorem L0_eq(call:Cl)(k:Nat)(J:Nat→St→Option R)(a0:Y1_1)(a1:Y1_4):∀(n:Nat)(x:(Int)),siteI E call n_impl_reckonable k s_impl_reckonable (a0,a1,()) J 0 n (S0 a0 a1 x)=L0 call k a0 a1 n x:=by
  refine loop_eq (s:=s_impl_reckonable) (fun x=>S0 a0 a1 x) (fun n x=>L0 call k a0 a1 n x) (fun r x=>step0 call k a0 a1 (fun v0_3=>r v0_3) x) (fun _=>rfl) (fun _ _=>rfl) fun J0 x=>?_
  kernel_rfl
theorem F_eq(call:Cl)(k:Nat)(a0:Y1_1)(a1:Y1_4):bodyK E call n_impl_reckonable k s_impl_reckonable (a0,a1,())=F call k a0 a1:=by
  exact Eq.trans (b:=Fm call k (fun a0 a1 v0_3_=>siteI E call n_impl_reckonable k s_impl_reckonable (a0,a1,()) (fun _ _=>none) 0 k (S0 a0 a1 v0_3_)) a0 a1) (by kernel_rfl) (congrArg (fun l=>Fm call k l a0 a1) (funext fun a0=>funext fun a1=>funext fun v0_3_=>L0_eq call k (fun _ _=>none) a0 a1 k v0_3_))
end impl_reckonable
/-! #### impl_mayStand-/
namespace impl_mayStand
abbrev R:=((Bool×Unit)×Unit)
def S0(a1:Y1_4)(v0_2:Int):St:=⟨mkS 26 [(16,.v tTl (a1)),(17,.v tI ((↑a1.length:Int))),(18,.v tI v0_2)],[]⟩
def step0(call:Cl)(k:Nat)(a1:Y1_4)(r0:(Int)→Option R)(v0_2:Int):Option R:=bif decide (v0_2<(↑a1.length:Int))then bif decide (0≤v0_2)then(lget a1 v0_2.toNat).bind fun(y1:Int×Int×Unit)=>bif y1.1==17 then some ((false,()),())else r0 (i64.wrap (v0_2+1))else none else some ((true,()),())
def L0(call:Cl)(k:Nat)(a1:Y1_4):Nat→(Int)→Option R|0,_=>none|n+1,v0_2=>step0 call k a1 (L0 call k a1 n) v0_2
def Fm(call:Cl)(k:Nat)(l0:Y1_3→(Int)→Option R)(a0:Y1_1)(a1:Y1_4):Option R:=bif decide ((↑a1.length:Int)>40)then some ((false,()),())else(call 252 s_impl_reckonable (a0,a1,())).bind fun(y0:Y1_6×Unit)=>bif !y0.1.1 then some ((false,()),())else l0 a1 0
def F(call:Cl)(k:Nat)(a0:Y1_1)(a1:Y1_4):Option R:=Fm call k (fun a1_ v0_2_=>L0 call k a1_ k v0_2_) a0 a1
theorem L0_eq(call:Cl)(k:Nat)(J:Nat→St→Option R)(a0:Y1_1)(a1:Y1_4):∀(n:Nat)(x:(Int)),siteI E call n_impl_mayStand k s_impl_mayStand (a0,a1,()) J 0 n (S0 a1 x)=L0 call k a1 n x:=by
  refine loop_eq (s:=s_impl_mayStand) (fun x=>S0 a1 x) (fun n x=>L0 call k a1 n x) (fun r x=>step0 call k a1 (fun v0_2=>r v0_2) x) (fun _=>rfl) (fun _ _=>rfl) fun J0 x=>?_
  kernel_rfl
theorem F_eq(call:Cl)(k:Nat)(a0:Y1_1)(a1:Y1_4):bodyK E call n_impl_mayStand k s_impl_mayStand (a0,a1,())=F call k a0 a1:=by
  exact Eq.trans (b:=Fm call k (fun a1 v0_2_=>siteI E call n_impl_mayStand k s_impl_mayStand (a0,a1,()) (fun _ _=>none) 0 k (S0 a1 v0_2_)) a0 a1) (by kernel_rfl) (congrArg (fun l=>Fm call k l a0 a1) (funext fun a1=>funext fun v0_2_=>L0_eq call k (fun _ _=>none) a0 a1 k v0_2_))
end impl_mayStand
/-! #### impl_inputRight-/
namespace impl_inputRight
abbrev R:=((Bool×Unit)×Unit)
def S1(a0:Y1_1)(v1_1:Int)(v1_4:Int):St:=⟨mkS 89 [(0,.v (.sptr tPg) (a0)),(3,.v tI v1_1),(55,.v tTl (a0.2.2.1)),(56,.v tI ((↑(List.length a0.2.2.1):Int))),(57,.v tI v1_4)],[]⟩
def S0(a0:Y1_1)(v0_1:Int)(v0_4:Int):St:=⟨mkS 89 [(0,.v (.sptr tPg) (a0)),(3,.v tI v0_1),(25,.v tTl (a0.2.1)),(26,.v tI ((↑(List.length a0.2.1):Int))),(27,.v tI v0_4)],[]⟩
def step1(call:Cl)(k:Nat)(a0:Y1_1)(r1:(Int)→(Int)→Option R)(v1_1:Int)(v1_4:Int):Option R:=bif decide (v1_4<(↑(List.length a0.2.2.1):Int))then bif decide (0≤v1_4)then(lget a0.2.2.1 v1_4.toNat).bind fun(y3:Int×Int×Unit)=>bif decide (y3.1<0)then some ((false,()),())else(call 224 s_impl_greatest (a0,())).bind fun(y4:Y1_7×Unit)=>bif decide (y3.1>y4.1.1)then some ((false,()),())else bif decide (y3.2.1<0)then some ((false,()),())else bif decide (y3.2.1>99)then some ((false,()),())else(call 179 s_impl_bitsOf (y3.1,())).bind fun(y5:Y1_7×Unit)=>r1 (i64.wrap (v1_1+y5.1.1)) (i64.wrap (v1_4+1))else none else some ((decide (v1_1≤10),()),())
def L1(call:Cl)(k:Nat)(a0:Y1_1):Nat→(Int)→(Int)→Option R|0,_,_=>none|n+1,v1_1,v1_4=>step1 call k a0 (L1 call k a0 n) v1_1 v1_4
def step0(call:Cl)(k:Nat)(a0:Y1_1)(l1:Y1_0→(Int)→(Int)→Option R)(r0:(Int)→(Int)→Option R)(v0_1:Int)(v0_4:Int):Option R:=bif decide (v0_4<(↑(List.length a0.2.1):Int))then bif decide (0≤v0_4)then(lget a0.2.1 v0_4.toNat).bind fun(y0:Int×Int×Unit)=>bif decide (y0.1<0)then some ((false,()),())else(call 224 s_impl_greatest (a0,())).bind fun(y1:Y1_7×Unit)=>bif decide (y0.1>y1.1.1)then some ((false,()),())else bif y0.2.1!=0 then some ((false,()),())else(call 179 s_impl_bitsOf (y0.1,())).bind fun(y2:Y1_7×Unit)=>r0 (i64.wrap (v0_1+y2.1.1)) (i64.wrap (v0_4+1))else none else l1 a0 v0_1 0
def L0(call:Cl)(k:Nat)(a0:Y1_1):Nat→(Int)→(Int)→Option R|0,_,_=>none|n+1,v0_1,v0_4=>step0 call k a0 (fun a0_ v1_1_ v1_4_=>L1 call k a0_ k v1_1_ v1_4_) (L0 call k a0 n) v0_1 v0_4
def Fm(call:Cl)(k:Nat)(l0:Y1_0→(Int)→(Int)→Option R)(a0:Y1_1):Option R:=bif decide ((↑(List.length a0.2.1):Int)>3)then some ((false,()),())else bif decide ((↑(List.length a0.2.2.1):Int)>3)then some ((false,()),())else l0 a0 0 0
def F(call:Cl)(k:Nat)(a0:Y1_1):Option R:=Fm call k (fun a0_ v0_1_ v0_4_=>L0 call k a0_ k v0_1_ v0_4_) a0
theorem L1_eq(call:Cl)(k:Nat)(J:Nat→St→Option R)(a0:Y1_1):∀(n:Nat)(x:Y1_5),siteI E call n_impl_inputRight k s_impl_inputRight (a0,()) J 1 n (S1 a0 x.1 x.2)=L1 call k a0 n x.1 x.2:=by
  refine loop_eq (s:=s_impl_inputRight) (fun x=>S1 a0 x.1 x.2) (fun n x=>L1 call k a0 n x.1 x.2) (fun r x=>step1 call k a0 (fun v1_1 v1_4=>r (v1_1,v1_4)) x.1 x.2) (fun _=>rfl) (fun _ _=>rfl) fun J0 x=>?_
  kernel_rfl
theorem L0_eq(call:Cl)(k:Nat)(J:Nat→St→Option R)(a0:Y1_1):∀(n:Nat)(x:Y1_5),siteI E call n_impl_inputRight k s_impl_inputRight (a0,()) J 0 n (S0 a0 x.1 x.2)=L0 call k a0 n x.1 x.2:=by
  refine loop_eq (s:=s_impl_inputRight) (fun x=>S0 a0 x.1 x.2) (fun n x=>L0 call k a0 n x.1 x.2) (fun r x=>step0 call k a0 (fun(a0:Y1_1)(v1_1_:Int)(v1_4_:Int)=>L1 call k a0 k v1_1_ v1_4_) (fun v0_1 v0_4=>r (v0_1,v0_4)) x.1 x.2) (fun _=>rfl) (fun _ _=>rfl) fun J0 x=>?_
  refine Eq.trans (b:=step0 call k a0 (fun a0 v1_1_ v1_4_=>siteI E call n_impl_inputRight k s_impl_inputRight (a0,()) (upJ 0 J0 J) 1 k (S1 a0 v1_1_ v1_4_)) (fun v0_1 v0_4=>J0 (S0 a0 v0_1 v0_4)) x.1 x.2) (by kernel_rfl) ?_;rw[show(fun(a0:Y1_1)(v1_1_:Int)(v1_4_:Int)=>siteI E call n_impl_inputRight k s_impl_inputRight (a0,()) (upJ 0 J0 J) 1 k (S1 a0 v1_1_ v1_4_))=(fun(a0:Y1_1)(v1_1_:Int)(v1_4_:Int)=>L1 call k a0 k v1_1_ v1_4_)from funext fun a0=>funext fun v1_1_=>funext fun v1_4_=>L1_eq call k (upJ 0 J0 J) a0 k (v1_1_,v1_4_)]
  all_goals rfl
theorem F_eq(call:Cl)(k:Nat)(a0:Y1_1):bodyK E call n_impl_inputRight k s_impl_inputRight (a0,())=F call k a0:=by
  exact Eq.trans (b:=Fm call k (fun a0 v0_1_ v0_4_=>siteI E call n_impl_inputRight k s_impl_inputRight (a0,()) (fun _ _=>none) 0 k (S0 a0 v0_1_ v0_4_)) a0) (by kernel_rfl) (congrArg (fun l=>Fm call k l a0) (funext fun a0=>funext fun v0_1_=>funext fun v0_4_=>L0_eq call k (fun _ _=>none) a0 k (v0_1_,v0_4_)))
end impl_inputRight
/-! #### impl_roomRight-/
namespace impl_roomRight
abbrev R:=((Bool×Unit)×Unit)
def S0(a0:Y1_1)(v0_2:Int):St:=⟨mkS 49 [(36,.v (.slc tI) (a0.2.2.2.2.1)),(37,.v tI ((↑(List.length a0.2.2.2.2.1):Int))),(38,.v tI v0_2)],[]⟩
def step0(call:Cl)(k:Nat)(a0:Y1_1)(r0:(Int)→Option R)(v0_2:Int):Option R:=bif decide (v0_2<(↑(List.length a0.2.2.2.2.1):Int))then bif decide (0≤v0_2)then(lget a0.2.2.2.2.1 v0_2.toNat).bind fun(y0:Int)=>bif decide (y0<1)then some ((false,()),())else bif decide (y0>6)then some ((false,()),())else r0 (i64.wrap (v0_2+1))else none else some ((true,()),())
def L0(call:Cl)(k:Nat)(a0:Y1_1):Nat→(Int)→Option R|0,_=>none|n+1,v0_2=>step0 call k a0 (L0 call k a0 n) v0_2
def Fm(call:Cl)(k:Nat)(l0:Y1_0→(Int)→Option R)(a0:Y1_1):Option R:=bif decide (a0.2.2.2.1<0)then some ((false,()),())else bif decide (a0.2.2.2.1>6)then some ((false,()),())else bif decide ((↑(List.length a0.2.2.2.2.1):Int)>2)then some ((false,()),())else bif decide ((↑(List.length a0.2.2.2.2.2.1):Int)>40)then some ((false,()),())else l0 a0 0
def F(call:Cl)(k:Nat)(a0:Y1_1):Option R:=Fm call k (fun a0_ v0_2_=>L0 call k a0_ k v0_2_) a0
theorem L0_eq(call:Cl)(k:Nat)(J:Nat→St→Option R)(a0:Y1_1):∀(n:Nat)(x:(Int)),siteI E call n_impl_roomRight k s_impl_roomRight (a0,()) J 0 n (S0 a0 x)=L0 call k a0 n x:=by
  refine loop_eq (s:=s_impl_roomRight) (fun x=>S0 a0 x) (fun n x=>L0 call k a0 n x) (fun r x=>step0 call k a0 (fun v0_2=>r v0_2) x) (fun _=>rfl) (fun _ _=>rfl) fun J0 x=>?_
  kernel_rfl
theorem F_eq(call:Cl)(k:Nat)(a0:Y1_1):bodyK E call n_impl_roomRight k s_impl_roomRight (a0,())=F call k a0:=by
  exact Eq.trans (b:=Fm call k (fun a0 v0_2_=>siteI E call n_impl_roomRight k s_impl_roomRight (a0,()) (fun _ _=>none) 0 k (S0 a0 v0_2_)) a0) (by kernel_rfl) (congrArg (fun l=>Fm call k l a0) (funext fun a0=>funext fun v0_2_=>L0_eq call k (fun _ _=>none) a0 k v0_2_))
end impl_roomRight
/-! #### impl_holdsPlace-/
namespace impl_holdsPlace
abbrev R:=((Bool×Unit)×Unit)
def Fm(call:Cl)(k:Nat)(a0:Y1_1)(a1:Y1_4)(a2:Bool):Option R:=bif !a2 then some (((↑a1.length:Int)==0,()),())else(call 240 s_impl_mayStand (a0,a1,())).bind fun(y0:Y1_6×Unit)=>some ((y0.1.1,()),())
def F(call:Cl)(k:Nat)(a0:Y1_1)(a1:Y1_4)(a2:Bool):Option R:=Fm call k a0 a1 a2
theorem F_eq(call:Cl)(k:Nat)(a0:Y1_1)(a1:Y1_4)(a2:Bool):bodyK E call n_impl_holdsPlace k s_impl_holdsPlace (a0,a1,a2,())=F call k a0 a1 a2:=by kernel_rfl
end impl_holdsPlace
/-! #### impl_stmtRight-/
namespace impl_stmtRight
abbrev R:=((Bool×Unit)×Unit)
def Fm(call:Cl)(k:Nat)(a0:Y1_1)(a1:Y1_2):Option R:=bif a1.1==0 then(call 225 s_impl_inputsOf (a0,())).bind fun(y0:Y1_7×Unit)=>(call 226 s_impl_varsOf (a0,())).bind fun(y1:Y1_7×Unit)=>bif decide (a1.2.1<y0.1.1)then some ((false,()),())else bif decide (a1.2.1>i64.wrap (y1.1.1-1))then some ((false,()),())else(call 227 s_impl_holdsPlace (a0,a1.2.2.1,false,())).bind fun(y2:Y1_6×Unit)=>bif y2.1.1 then(call 227 s_impl_holdsPlace (a0,a1.2.2.2.1,true,())).bind fun(y3:Y1_6×Unit)=>some ((y3.1.1,()),())else some ((false,()),())else bif a1.1==1 then bif decide (a1.2.1<0)then some ((false,()),())else bif decide (a1.2.1>i64.wrap ((↑(List.length a0.2.2.2.2.1):Int)-1))then some ((false,()),())else(call 227 s_impl_holdsPlace (a0,a1.2.2.1,true,())).bind fun(y4:Y1_6×Unit)=>bif y4.1.1 then(call 227 s_impl_holdsPlace (a0,a1.2.2.2.1,true,())).bind fun(y5:Y1_6×Unit)=>some ((y5.1.1,()),())else some ((false,()),())else bif a1.1==2 then bif a1.1==2 then bif decide (a1.2.1<0)then some ((false,()),())else bif decide (a1.2.1>0)then some ((false,()),())else(call 227 s_impl_holdsPlace (a0,a1.2.2.1,false,())).bind fun(y6:Y1_6×Unit)=>bif y6.1.1 then(call 227 s_impl_holdsPlace (a0,a1.2.2.2.1,true,())).bind fun(y7:Y1_6×Unit)=>some ((y7.1.1,()),())else some ((false,()),())else bif a1.1==5 then bif decide (a1.2.1<0)then some ((false,()),())else bif decide (a1.2.1>4)then some ((false,()),())else(call 227 s_impl_holdsPlace (a0,a1.2.2.1,false,())).bind fun(y8:Y1_6×Unit)=>bif y8.1.1 then(call 227 s_impl_holdsPlace (a0,a1.2.2.2.1,false,())).bind fun(y9:Y1_6×Unit)=>some ((y9.1.1,()),())else some ((false,()),())else bif a1.1==7 then bif a1.1==7 then bif decide (a1.2.1<0)then some ((false,()),())else bif decide (a1.2.1>9)then some ((false,()),())else(call 227 s_impl_holdsPlace (a0,a1.2.2.1,false,())).bind fun(y10:Y1_6×Unit)=>bif y10.1.1 then(call 227 s_impl_holdsPlace (a0,a1.2.2.2.1,false,())).bind fun(y11:Y1_6×Unit)=>some ((y11.1.1,()),())else some ((false,()),())else bif a1.1==3 then bif a1.1==3 then bif decide (a1.2.1<0)then some ((false,()),())else bif decide (a1.2.1>0)then some ((false,()),())else(call 227 s_impl_holdsPlace (a0,a1.2.2.1,false,())).bind fun(y12:Y1_6×Unit)=>bif y12.1.1 then(call 227 s_impl_holdsPlace (a0,a1.2.2.2.1,false,())).bind fun(y13:Y1_6×Unit)=>some ((y13.1.1,()),())else some ((false,()),())else some ((false,()),())else bif a1.1==4 then bif a1.1==4 then bif decide (a1.2.1<0)then some ((false,()),())else bif decide (a1.2.1>0)then some ((false,()),())else(call 227 s_impl_holdsPlace (a0,a1.2.2.1,false,())).bind fun(y14:Y1_6×Unit)=>bif y14.1.1 then(call 227 s_impl_holdsPlace (a0,a1.2.2.2.1,false,())).bind fun(y15:Y1_6×Unit)=>some ((y15.1.1,()),())else some ((false,()),())else some ((false,()),())else bif a1.1==8 then bif decide (a1.2.1<0)then some ((false,()),())else bif decide (a1.2.1>0)then some ((false,()),())else(call 227 s_impl_holdsPlace (a0,a1.2.2.1,false,())).bind fun(y16:Y1_6×Unit)=>bif y16.1.1 then(call 227 s_impl_holdsPlace (a0,a1.2.2.2.1,false,())).bind fun(y17:Y1_6×Unit)=>some ((y17.1.1,()),())else some ((false,()),())else some ((false,()),())else bif a1.1==9 then bif decide (a1.2.1<0)then some ((false,()),())else bif decide (a1.2.1>9)then some ((false,()),())else(call 227 s_impl_holdsPlace (a0,a1.2.2.1,false,())).bind fun(y18:Y1_6×Unit)=>bif y18.1.1 then(call 227 s_impl_holdsPlace (a0,a1.2.2.2.1,false,())).bind fun(y19:Y1_6×Unit)=>some ((y19.1.1,()),())else some ((false,()),())else bif a1.1==3 then bif a1.1==3 then bif decide (a1.2.1<0)then some ((false,()),())else bif decide (a1.2.1>0)then some ((false,()),())else(call 227 s_impl_holdsPlace (a0,a1.2.2.1,false,())).bind fun(y20:Y1_6×Unit)=>bif y20.1.1 then(call 227 s_impl_holdsPlace (a0,a1.2.2.2.1,false,())).bind fun(y21:Y1_6×Unit)=>some ((y21.1.1,()),())else some ((false,()),())else some ((false,()),())else bif a1.1==4 then bif a1.1==4 then bif decide (a1.2.1<0)then some ((false,()),())else bif decide (a1.2.1>0)then some ((false,()),())else(call 227 s_impl_holdsPlace (a0,a1.2.2.1,false,())).bind fun(y22:Y1_6×Unit)=>bif y22.1.1 then(call 227 s_impl_holdsPlace (a0,a1.2.2.2.1,false,())).bind fun(y23:Y1_6×Unit)=>some ((y23.1.1,()),())else some ((false,()),())else some ((false,()),())else bif a1.1==8 then bif decide (a1.2.1<0)then some ((false,()),())else bif decide (a1.2.1>0)then some ((false,()),())else(call 227 s_impl_holdsPlace (a0,a1.2.2.1,false,())).bind fun(y24:Y1_6×Unit)=>bif y24.1.1 then(call 227 s_impl_holdsPlace (a0,a1.2.2.2.1,false,())).bind fun(y25:Y1_6×Unit)=>some ((y25.1.1,()),())else some ((false,()),())else some ((false,()),())else bif a1.1==6 then bif decide (a1.2.1<0)then some ((false,()),())else bif decide (a1.2.1>0)then some ((false,()),())else(call 227 s_impl_holdsPlace (a0,a1.2.2.1,false,())).bind fun(y26:Y1_6×Unit)=>bif y26.1.1 then(call 227 s_impl_holdsPlace (a0,a1.2.2.2.1,true,())).bind fun(y27:Y1_6×Unit)=>some ((y27.1.1,()),())else some ((false,()),())else bif a1.1==5 then bif decide (a1.2.1<0)then some ((false,()),())else bif decide (a1.2.1>4)then some ((false,()),())else(call 227 s_impl_holdsPlace (a0,a1.2.2.1,false,())).bind fun(y28:Y1_6×Unit)=>bif y28.1.1 then(call 227 s_impl_holdsPlace (a0,a1.2.2.2.1,false,())).bind fun(y29:Y1_6×Unit)=>some ((y29.1.1,()),())else some ((false,()),())else bif a1.1==7 then bif a1.1==7 then bif decide (a1.2.1<0)then some ((false,()),())else bif decide (a1.2.1>9)then some ((false,()),())else(call 227 s_impl_holdsPlace (a0,a1.2.2.1,false,())).bind fun(y30:Y1_6×Unit)=>bif y30.1.1 then(call 227 s_impl_holdsPlace (a0,a1.2.2.2.1,false,())).bind fun(y31:Y1_6×Unit)=>some ((y31.1.1,()),())else some ((false,()),())else bif a1.1==3 then bif a1.1==3 then bif decide (a1.2.1<0)then some ((false,()),())else bif decide (a1.2.1>0)then some ((false,()),())else(call 227 s_impl_holdsPlace (a0,a1.2.2.1,false,())).bind fun(y32:Y1_6×Unit)=>bif y32.1.1 then(call 227 s_impl_holdsPlace (a0,a1.2.2.2.1,false,())).bind fun(y33:Y1_6×Unit)=>some ((y33.1.1,()),())else some ((false,()),())else some ((false,()),())else bif a1.1==4 then bif a1.1==4 then bif decide (a1.2.1<0)then some ((false,()),())else bif decide (a1.2.1>0)then some ((false,()),())else(call 227 s_impl_holdsPlace (a0,a1.2.2.1,false,())).bind fun(y34:Y1_6×Unit)=>bif y34.1.1 then(call 227 s_impl_holdsPlace (a0,a1.2.2.2.1,false,())).bind fun(y35:Y1_6×Unit)=>some ((y35.1.1,()),())else some ((false,()),())else some ((false,()),())else bif a1.1==8 then bif decide (a1.2.1<0)then some ((false,()),())else bif decide (a1.2.1>0)then some ((false,()),())else(call 227 s_impl_holdsPlace (a0,a1.2.2.1,false,())).bind fun(y36:Y1_6×Unit)=>bif y36.1.1 then(call 227 s_impl_holdsPlace (a0,a1.2.2.2.1,false,())).bind fun(y37:Y1_6×Unit)=>some ((y37.1.1,()),())else some ((false,()),())else some ((false,()),())else bif a1.1==9 then bif decide (a1.2.1<0)then some ((false,()),())else bif decide (a1.2.1>9)then some ((false,()),())else(call 227 s_impl_holdsPlace (a0,a1.2.2.1,false,())).bind fun(y38:Y1_6×Unit)=>bif y38.1.1 then(call 227 s_impl_holdsPlace (a0,a1.2.2.2.1,false,())).bind fun(y39:Y1_6×Unit)=>some ((y39.1.1,()),())else some ((false,()),())else bif a1.1==3 then bif a1.1==3 then bif decide (a1.2.1<0)then some ((false,()),())else bif decide (a1.2.1>0)then some ((false,()),())else(call 227 s_impl_holdsPlace (a0,a1.2.2.1,false,())).bind fun(y40:Y1_6×Unit)=>bif y40.1.1 then(call 227 s_impl_holdsPlace (a0,a1.2.2.2.1,false,())).bind fun(y41:Y1_6×Unit)=>some ((y41.1.1,()),())else some ((false,()),())else some ((false,()),())else bif a1.1==4 then bif a1.1==4 then bif decide (a1.2.1<0)then some ((false,()),())else bif decide (a1.2.1>0)then some ((false,()),())else(call 227 s_impl_holdsPlace (a0,a1.2.2.1,false,())).bind fun(y42:Y1_6×Unit)=>bif y42.1.1 then(call 227 s_impl_holdsPlace (a0,a1.2.2.2.1,false,())).bind fun(y43:Y1_6×Unit)=>some ((y43.1.1,()),())else some ((false,()),())else some ((false,()),())else bif a1.1==8 then bif decide (a1.2.1<0)then some ((false,()),())else bif decide (a1.2.1>0)then some ((false,()),())else(call 227 s_impl_holdsPlace (a0,a1.2.2.1,false,())).bind fun(y44:Y1_6×Unit)=>bif y44.1.1 then(call 227 s_impl_holdsPlace (a0,a1.2.2.2.1,false,())).bind fun(y45:Y1_6×Unit)=>some ((y45.1.1,()),())else some ((false,()),())else some ((false,()),())
def F(call:Cl)(k:Nat)(a0:Y1_1)(a1:Y1_2):Option R:=Fm call k a0 a1
theorem F_eq(call:Cl)(k:Nat)(a0:Y1_1)(a1:Y1_2):bodyK E call n_impl_stmtRight k s_impl_stmtRight (a0,a1,())=F call k a0 a1:=by kernel_rfl
end impl_stmtRight
/-! #### spec_l1In-/
namespace spec_l1In
abbrev R:=((Bool×Unit)×Unit)
def Fm(call:Cl)(k:Nat)(a0:Int)(a1:Int)(a2:Int):Option R:=bif decide (a0≥a1)then some ((decide (a0≤a2),()),())else some ((false,()),())
def F(call:Cl)(k:Nat)(a0:Int)(a1:Int)(a2:Int):Option R:=Fm call k a0 a1 a2
theorem F_eq(call:Cl)(k:Nat)(a0:Int)(a1:Int)(a2:Int):bodyK E call n_spec_l1In k s_spec_l1In (a0,a1,a2,())=F call k a0 a1 a2:=by kernel_rfl
end spec_l1In
/-! #### spec_l1Max-/
namespace spec_l1Max
abbrev R:=((Int×Unit)×Unit)
def Fm(call:Cl)(k:Nat)(a0:Int)(a1:Int):Option R:=bif decide (a0>a1)then some ((a0,()),())else some ((a1,()),())
def F(call:Cl)(k:Nat)(a0:Int)(a1:Int):Option R:=Fm call k a0 a1
theorem F_eq(call:Cl)(k:Nat)(a0:Int)(a1:Int):bodyK E call n_spec_l1Max k s_spec_l1Max (a0,a1,())=F call k a0 a1:=by kernel_rfl
end spec_l1Max
/-! #### spec_TakesOf-/
namespace spec_TakesOf
abbrev R:=((Int×Unit)×Unit)
def Fm(call:Cl)(k:Nat)(a0:Int):Option R:=(call 123 s_spec_l1In (a0,0,17,())).bind fun(y0:Y1_6×Unit)=>bif !y0.1.1 then some (((-1),()),())else bif decide (0≤a0)&&decide (a0.toNat<[(0:Int),(0:Int),(1:Int),(1:Int),(1:Int),(2:Int),(2:Int),(2:Int),(2:Int),(2:Int),(2:Int),(2:Int),(2:Int),(2:Int),(2:Int),(2:Int),(2:Int),(3:Int)].length)then(lget [(0:Int),(0:Int),(1:Int),(1:Int),(1:Int),(2:Int),(2:Int),(2:Int),(2:Int),(2:Int),(2:Int),(2:Int),(2:Int),(2:Int),(2:Int),(2:Int),(2:Int),(3:Int)] a0.toNat).bind fun(y1:Int)=>some ((y1,()),())else none
def F(call:Cl)(k:Nat)(a0:Int):Option R:=Fm call k a0
theorem F_eq(call:Cl)(k:Nat)(a0:Int):bodyK E call n_spec_TakesOf k s_spec_TakesOf (a0,())=F call k a0:=by kernel_rfl
end spec_TakesOf
/-! #### spec_ExpOk-/
namespace spec_ExpOk
abbrev R:=((Bool×Unit)×Unit)
def S0(a0:Y1_4)(v0_1:Int)(v0_2:Int):St:=⟨mkS 59 [(0,.v tTl (a0)),(3,.v tI v0_1),(4,.v tI v0_2)],[]⟩
def step0(call:Cl)(k:Nat)(a0:Y1_4)(r0:(Int)→(Int)→Option R)(v0_1:Int)(v0_2:Int):Option R:=bif decide (v0_2<(↑a0.length:Int))then bif decide (0≤v0_2)then(lget a0 v0_2.toNat).bind fun(y0:Int×Int×Unit)=>(call 233 s_spec_TakesOf (y0.1,())).bind fun(y1:Y1_7×Unit)=>bif decide (y1.1.1<0)then some ((false,()),())else bif decide (y1.1.1>v0_1)then some ((false,()),())else bif decide (0≤v0_2)then(lget a0 v0_2.toNat).bind fun(y2:Int×Int×Unit)=>(call 123 s_spec_l1In (y2.2.1,0,255,())).bind fun(y3:Y1_6×Unit)=>bif !y3.1.1 then some ((false,()),())else bif decide (0≤v0_2)then(lget a0 v0_2.toNat).bind fun(y4:Int×Int×Unit)=>bif decide (y4.1>2)then bif decide (0≤v0_2)then(lget a0 v0_2.toNat).bind fun(y5:Int×Int×Unit)=>bif y5.2.1!=0 then some ((false,()),())else r0 (i64.wrap (i64.wrap (v0_1-y1.1.1)+1)) (i64.wrap (v0_2+1))else none else r0 (i64.wrap (i64.wrap (v0_1-y1.1.1)+1)) (i64.wrap (v0_2+1))else none else none else none else some ((v0_1==1,()),())
def L0(call:Cl)(k:Nat)(a0:Y1_4):Nat→(Int)→(Int)→Option R|0,_,_=>none|n+1,v0_1,v0_2=>step0 call k a0 (L0 call k a0 n) v0_1 v0_2
def Fm(call:Cl)(k:Nat)(l0:Y1_3→(Int)→(Int)→Option R)(a0:Y1_4):Option R:=bif decide ((↑a0.length:Int)>3000)then some ((false,()),())else l0 a0 0 0
def F(call:Cl)(k:Nat)(a0:Y1_4):Option R:=Fm call k (fun a0_ v0_1_ v0_2_=>L0 call k a0_ k v0_1_ v0_2_) a0
theorem L0_eq(call:Cl)(k:Nat)(J:Nat→St→Option R)(a0:Y1_4):∀(n:Nat)(x:Y1_5),siteI E call n_spec_ExpOk k s_spec_ExpOk (a0,()) J 0 n (S0 a0 x.1 x.2)=L0 call k a0 n x.1 x.2:=by
  refine loop_eq (s:=s_spec_ExpOk) (fun x=>S0 a0 x.1 x.2) (fun n x=>L0 call k a0 n x.1 x.2) (fun r x=>step0 call k a0 (fun v0_1 v0_2=>r (v0_1,v0_2)) x.1 x.2) (fun _=>rfl) (fun _ _=>rfl) fun J0 x=>?_
  kernel_rfl
theorem F_eq(call:Cl)(k:Nat)(a0:Y1_4):bodyK E call n_spec_ExpOk k s_spec_ExpOk (a0,())=F call k a0:=by
  exact Eq.trans (b:=Fm call k (fun a0 v0_1_ v0_2_=>siteI E call n_spec_ExpOk k s_spec_ExpOk (a0,()) (fun _ _=>none) 0 k (S0 a0 v0_1_ v0_2_)) a0) (by kernel_rfl) (congrArg (fun l=>Fm call k l a0) (funext fun a0=>funext fun v0_1_=>funext fun v0_2_=>L0_eq call k (fun _ _=>none) a0 k (v0_1_,v0_2_)))
end spec_ExpOk
/-! #### spec_l3Size-/
namespace spec_l3Size
abbrev R:=((Int×Unit)×Unit)
def S0(a0:Y1_1)(v0_0:Int)(v0_1:Int):St:=⟨mkS 14 [(1,.p [500001] [] 0),(3,.v tI v0_0),(4,.v tI v0_1)],[([500001],.box (.v tPg ((a0.1),((a0.2.1),((a0.2.2.1),((a0.2.2.2.1),((a0.2.2.2.2.1),((a0.2.2.2.2.2.1),()))))))))]⟩
def step0(call:Cl)(k:Nat)(a0:Y1_1)(r0:(Int)→(Int)→Option R)(v0_0:Int)(v0_1:Int):Option R:=bif decide (v0_1<a0.1)then r0 (i64.wrap (v0_0*2)) (i64.wrap (v0_1+1))else some ((v0_0,()),())
def L0(call:Cl)(k:Nat)(a0:Y1_1):Nat→(Int)→(Int)→Option R|0,_,_=>none|n+1,v0_0,v0_1=>step0 call k a0 (L0 call k a0 n) v0_0 v0_1
def Fm(call:Cl)(k:Nat)(l0:Y1_0→(Int)→(Int)→Option R)(a0:Y1_1):Option R:=l0 a0 1 0
def F(call:Cl)(k:Nat)(a0:Y1_1):Option R:=Fm call k (fun a0_ v0_0_ v0_1_=>L0 call k a0_ k v0_0_ v0_1_) a0
theorem L0_eq(call:Cl)(k:Nat)(J:Nat→St→Option R)(a0:Y1_1):∀(n:Nat)(x:Y1_5),siteI E call n_spec_l3Size k s_spec_l3Size (a0,()) J 0 n (S0 a0 x.1 x.2)=L0 call k a0 n x.1 x.2:=by
  refine loop_eq (s:=s_spec_l3Size) (fun x=>S0 a0 x.1 x.2) (fun n x=>L0 call k a0 n x.1 x.2) (fun r x=>step0 call k a0 (fun v0_0 v0_1=>r (v0_0,v0_1)) x.1 x.2) (fun _=>rfl) (fun _ _=>rfl) fun J0 x=>?_
  kernel_rfl
theorem F_eq(call:Cl)(k:Nat)(a0:Y1_1):bodyK E call n_spec_l3Size k s_spec_l3Size (a0,())=F call k a0:=by
  exact Eq.trans (b:=Fm call k (fun a0 v0_0_ v0_1_=>siteI E call n_spec_l3Size k s_spec_l3Size (a0,()) (fun _ _=>none) 0 k (S0 a0 v0_0_ v0_1_)) a0) (by kernel_rfl) (congrArg (fun l=>Fm call k l a0) (funext fun a0=>funext fun v0_0_=>funext fun v0_1_=>L0_eq call k (fun _ _=>none) a0 k (v0_0_,v0_1_)))
end spec_l3Size
/-! #### spec_l3Bits-/
namespace spec_l3Bits
abbrev R:=((Int×Unit)×Unit)
def S0(v0_0:Int)(v0_1:Int):St:=⟨mkS 11 [(0,.v tI v0_0),(3,.v tI v0_1)],[]⟩
def step0(call:Cl)(k:Nat)(r0:(Int)→(Int)→Option R)(v0_0:Int)(v0_1:Int):Option R:=bif decide (v0_0>0)then r0 (i64.wrap (v0_0.tdiv 2)) (i64.wrap (v0_1+1))else some ((v0_1,()),())
def L0(call:Cl)(k:Nat):Nat→(Int)→(Int)→Option R|0,_,_=>none|n+1,v0_0,v0_1=>step0 call k (L0 call k n) v0_0 v0_1
def Fm(call:Cl)(k:Nat)(l0:(Int)→(Int)→Option R)(a0:Int):Option R:=l0 a0 0
def F(call:Cl)(k:Nat)(a0:Int):Option R:=Fm call k (fun v0_0_ v0_1_=>L0 call k k v0_0_ v0_1_) a0
theorem L0_eq(call:Cl)(k:Nat)(J:Nat→St→Option R)(a0:Int):∀(n:Nat)(x:Y1_5),siteI E call n_spec_l3Bits k s_spec_l3Bits (a0,()) J 0 n (S0 x.1 x.2)=L0 call k n x.1 x.2:=by
  refine loop_eq (s:=s_spec_l3Bits) (fun x=>S0 x.1 x.2) (fun n x=>L0 call k n x.1 x.2) (fun r x=>step0 call k (fun v0_0 v0_1=>r (v0_0,v0_1)) x.1 x.2) (fun _=>rfl) (fun _ _=>rfl) fun J0 x=>?_
  kernel_rfl
theorem F_eq(call:Cl)(k:Nat)(a0:Int):bodyK E call n_spec_l3Bits k s_spec_l3Bits (a0,())=F call k a0:=by
  exact Eq.trans (b:=Fm call k (fun v0_0_ v0_1_=>siteI E call n_spec_l3Bits k s_spec_l3Bits (a0,()) (fun _ _=>none) 0 k (S0 v0_0_ v0_1_)) a0) (by kernel_rfl) (congrArg (fun l=>Fm call k l a0) (funext fun v0_0_=>funext fun v0_1_=>L0_eq call k (fun _ _=>none) a0 k (v0_0_,v0_1_)))
end spec_l3Bits
/-! #### spec_l3Vars-/
namespace spec_l3Vars
abbrev R:=((Int×Unit)×Unit)
def Fm(call:Cl)(k:Nat)(a0:Y1_1):Option R:=some ((i64.wrap (i64.wrap ((↑(List.length a0.2.1):Int)+(↑(List.length a0.2.2.1):Int))+a0.2.2.2.1),()),())
def F(call:Cl)(k:Nat)(a0:Y1_1):Option R:=Fm call k a0
theorem F_eq(call:Cl)(k:Nat)(a0:Y1_1):bodyK E call n_spec_l3Vars k s_spec_l3Vars (a0,())=F call k a0:=by kernel_rfl
end spec_l3Vars
/-! #### spec_l3Inputs-/
namespace spec_l3Inputs
abbrev R:=((Bool×Unit)×Unit)
def S0(a0:Y1_1)(a1:Y1_4)(a2:Bool)(v0_2:Int):St:=⟨mkS 47 [(1,.v tTl (a1)),(2,.v .bool (a2)),(3,.p [500003] [] 0),(7,.v tI v0_2)],[([500003],.box (.v tPg ((a0.1),((a0.2.1),((a0.2.2.1),((a0.2.2.2.1),((a0.2.2.2.2.1),((a0.2.2.2.2.2.1),()))))))))]⟩
def step0(call:Cl)(k:Nat)(a0:Y1_1)(a1:Y1_4)(a2:Bool)(r0:(Int)→Option R)(v0_2:Int):Option R:=bif decide (v0_2<(↑a1.length:Int))then bif decide (0≤v0_2)then(lget a1 v0_2.toNat).bind fun(y0:Int×Int×Unit)=>(call 219 s_spec_l3Size (a0,())).bind fun(y1:Y1_7×Unit)=>(call 123 s_spec_l1In (y0.1,0,i64.wrap (y1.1.1-1),())).bind fun(y2:Y1_6×Unit)=>bif !y2.1.1 then some ((false,()),())else bif decide (0≤v0_2)then(lget a1 v0_2.toNat).bind fun(y3:Int×Int×Unit)=>(call 123 s_spec_l1In (y3.2.1,0,99,())).bind fun(y4:Y1_6×Unit)=>bif !y4.1.1 then some ((false,()),())else bif a2 then bif decide (0≤v0_2)then(lget a1 v0_2.toNat).bind fun(y5:Int×Int×Unit)=>bif y5.2.1!=0 then some ((false,()),())else r0 (i64.wrap (v0_2+1))else none else r0 (i64.wrap (v0_2+1))else none else none else some ((decide ((↑a1.length:Int)≤3),()),())
def L0(call:Cl)(k:Nat)(a0:Y1_1)(a1:Y1_4)(a2:Bool):Nat→(Int)→Option R|0,_=>none|n+1,v0_2=>step0 call k a0 a1 a2 (L0 call k a0 a1 a2 n) v0_2
def Fm(call:Cl)(k:Nat)(l0:Y1_0→Y1_3→(Bool)→(Int)→Option R)(a0:Y1_1)(a1:Y1_4)(a2:Bool):Option R:=l0 a0 a1 a2 0
def F(call:Cl)(k:Nat)(a0:Y1_1)(a1:Y1_4)(a2:Bool):Option R:=Fm call k (fun a0_ a1_ a2_ v0_2_=>L0 call k a0_ a1_ a2_ k v0_2_) a0 a1 a2
theorem L0_eq(call:Cl)(k:Nat)(J:Nat→St→Option R)(a0:Y1_1)(a1:Y1_4)(a2:Bool):∀(n:Nat)(x:(Int)),siteI E call n_spec_l3Inputs k s_spec_l3Inputs (a0,a1,a2,()) J 0 n (S0 a0 a1 a2 x)=L0 call k a0 a1 a2 n x:=by
  refine loop_eq (s:=s_spec_l3Inputs) (fun x=>S0 a0 a1 a2 x) (fun n x=>L0 call k a0 a1 a2 n x) (fun r x=>step0 call k a0 a1 a2 (fun v0_2=>r v0_2) x) (fun _=>rfl) (fun _ _=>rfl) fun J0 x=>?_
  kernel_rfl
theorem F_eq(call:Cl)(k:Nat)(a0:Y1_1)(a1:Y1_4)(a2:Bool):bodyK E call n_spec_l3Inputs k s_spec_l3Inputs (a0,a1,a2,())=F call k a0 a1 a2:=by
  exact Eq.trans (b:=Fm call k (fun a0 a1 a2 v0_2_=>siteI E call n_spec_l3Inputs k s_spec_l3Inputs (a0,a1,a2,()) (fun _ _=>none) 0 k (S0 a0 a1 a2 v0_2_)) a0 a1 a2) (by kernel_rfl) (congrArg (fun l=>Fm call k l a0 a1 a2) (funext fun a0=>funext fun a1=>funext fun a2=>funext fun v0_2_=>L0_eq call k (fun _ _=>none) a0 a1 a2 k v0_2_))
end spec_l3Inputs
/-! #### spec_l3AllBits-/
namespace spec_l3AllBits
abbrev R:=((Int×Unit)×Unit)
def S1(a0:Y1_1)(v1_0:Int)(v1_1:Int):St:=⟨mkS 39 [(1,.p [500001] [] 0),(3,.v tI v1_0),(5,.v tI v1_1)],[([500001],.box (.v tPg ((a0.1),((a0.2.1),((a0.2.2.1),((a0.2.2.2.1),((a0.2.2.2.2.1),((a0.2.2.2.2.2.1),()))))))))]⟩
def S0(a0:Y1_1)(v0_0:Int)(v0_1:Int):St:=⟨mkS 39 [(1,.p [500001] [] 0),(3,.v tI v0_0),(4,.v tI v0_1)],[([500001],.box (.v tPg ((a0.1),((a0.2.1),((a0.2.2.1),((a0.2.2.2.1),((a0.2.2.2.2.1),((a0.2.2.2.2.2.1),()))))))))]⟩
def step1(call:Cl)(k:Nat)(a0:Y1_1)(r1:(Int)→(Int)→Option R)(v1_0:Int)(v1_1:Int):Option R:=bif decide (v1_1<(↑a0.2.2.1.length:Int))then bif decide (0≤v1_1)then(lget a0.2.2.1 v1_1.toNat).bind fun(y2:Int×Int×Unit)=>(call 94 s_spec_l3Bits (y2.1,())).bind fun(y3:Y1_7×Unit)=>r1 (i64.wrap (v1_0+y3.1.1)) (i64.wrap (v1_1+1))else none else some ((v1_0,()),())
def L1(call:Cl)(k:Nat)(a0:Y1_1):Nat→(Int)→(Int)→Option R|0,_,_=>none|n+1,v1_0,v1_1=>step1 call k a0 (L1 call k a0 n) v1_0 v1_1
def step0(call:Cl)(k:Nat)(a0:Y1_1)(l1:Y1_0→(Int)→(Int)→Option R)(r0:(Int)→(Int)→Option R)(v0_0:Int)(v0_1:Int):Option R:=bif decide (v0_1<(↑a0.2.1.length:Int))then bif decide (0≤v0_1)then(lget a0.2.1 v0_1.toNat).bind fun(y0:Int×Int×Unit)=>(call 94 s_spec_l3Bits (y0.1,())).bind fun(y1:Y1_7×Unit)=>r0 (i64.wrap (v0_0+y1.1.1)) (i64.wrap (v0_1+1))else none else l1 a0 v0_0 0
def L0(call:Cl)(k:Nat)(a0:Y1_1):Nat→(Int)→(Int)→Option R|0,_,_=>none|n+1,v0_0,v0_1=>step0 call k a0 (fun a0_ v1_0_ v1_1_=>L1 call k a0_ k v1_0_ v1_1_) (L0 call k a0 n) v0_0 v0_1
def Fm(call:Cl)(k:Nat)(l0:Y1_0→(Int)→(Int)→Option R)(a0:Y1_1):Option R:=l0 a0 0 0
def F(call:Cl)(k:Nat)(a0:Y1_1):Option R:=Fm call k (fun a0_ v0_0_ v0_1_=>L0 call k a0_ k v0_0_ v0_1_) a0
theorem L1_eq(call:Cl)(k:Nat)(J:Nat→St→Option R)(a0:Y1_1):∀(n:Nat)(x:Y1_5),siteI E call n_spec_l3AllBits k s_spec_l3AllBits (a0,()) J 1 n (S1 a0 x.1 x.2)=L1 call k a0 n x.1 x.2:=by
  refine loop_eq (s:=s_spec_l3AllBits) (fun x=>S1 a0 x.1 x.2) (fun n x=>L1 call k a0 n x.1 x.2) (fun r x=>step1 call k a0 (fun v1_0 v1_1=>r (v1_0,v1_1)) x.1 x.2) (fun _=>rfl) (fun _ _=>rfl) fun J0 x=>?_
  kernel_rfl
theorem L0_eq(call:Cl)(k:Nat)(J:Nat→St→Option R)(a0:Y1_1):∀(n:Nat)(x:Y1_5),siteI E call n_spec_l3AllBits k s_spec_l3AllBits (a0,()) J 0 n (S0 a0 x.1 x.2)=L0 call k a0 n x.1 x.2:=by
  refine loop_eq (s:=s_spec_l3AllBits) (fun x=>S0 a0 x.1 x.2) (fun n x=>L0 call k a0 n x.1 x.2) (fun r x=>step0 call k a0 (fun(a0:Y1_1)(v1_0_:Int)(v1_1_:Int)=>L1 call k a0 k v1_0_ v1_1_) (fun v0_0 v0_1=>r (v0_0,v0_1)) x.1 x.2) (fun _=>rfl) (fun _ _=>rfl) fun J0 x=>?_
  refine Eq.trans (b:=step0 call k a0 (fun a0 v1_0_ v1_1_=>siteI E call n_spec_l3AllBits k s_spec_l3AllBits (a0,()) (upJ 0 J0 J) 1 k (S1 a0 v1_0_ v1_1_)) (fun v0_0 v0_1=>J0 (S0 a0 v0_0 v0_1)) x.1 x.2) (by kernel_rfl) ?_;rw[show(fun(a0:Y1_1)(v1_0_:Int)(v1_1_:Int)=>siteI E call n_spec_l3AllBits k s_spec_l3AllBits (a0,()) (upJ 0 J0 J) 1 k (S1 a0 v1_0_ v1_1_))=(fun(a0:Y1_1)(v1_0_:Int)(v1_1_:Int)=>L1 call k a0 k v1_0_ v1_1_)from funext fun a0=>funext fun v1_0_=>funext fun v1_1_=>L1_eq call k (upJ 0 J0 J) a0 k (v1_0_,v1_1_)]
  all_goals rfl
theorem F_eq(call:Cl)(k:Nat)(a0:Y1_1):bodyK E call n_spec_l3AllBits k s_spec_l3AllBits (a0,())=F call k a0:=by
  exact Eq.trans (b:=Fm call k (fun a0 v0_0_ v0_1_=>siteI E call n_spec_l3AllBits k s_spec_l3AllBits (a0,()) (fun _ _=>none) 0 k (S0 a0 v0_0_ v0_1_)) a0) (by kernel_rfl) (congrArg (fun l=>Fm call k l a0) (funext fun a0=>funext fun v0_0_=>funext fun v0_1_=>L0_eq call k (fun _ _=>none) a0 k (v0_0_,v0_1_)))
end spec_l3AllBits
/-! #### spec_l3Room-/
namespace spec_l3Room
abbrev R:=((Bool×Unit)×Unit)
def S0(a0:Y1_1)(v0_0:Int):St:=⟨mkS 34 [(1,.p [500001] [] 0),(3,.v tI v0_0)],[([500001],.box (.v tPg ((a0.1),((a0.2.1),((a0.2.2.1),((a0.2.2.2.1),((a0.2.2.2.2.1),((a0.2.2.2.2.2.1),()))))))))]⟩
def step0(call:Cl)(k:Nat)(a0:Y1_1)(r0:(Int)→Option R)(v0_0:Int):Option R:=bif decide (v0_0<(↑a0.2.2.2.2.1.length:Int))then bif decide (0≤v0_0)then(lget a0.2.2.2.2.1 v0_0.toNat).bind fun(y1:Int)=>(call 123 s_spec_l1In (y1,1,6,())).bind fun(y2:Y1_6×Unit)=>bif !y2.1.1 then some ((false,()),())else r0 (i64.wrap (v0_0+1))else none else some ((true,()),())
def L0(call:Cl)(k:Nat)(a0:Y1_1):Nat→(Int)→Option R|0,_=>none|n+1,v0_0=>step0 call k a0 (L0 call k a0 n) v0_0
def Fm(call:Cl)(k:Nat)(l0:Y1_0→(Int)→Option R)(a0:Y1_1):Option R:=(call 123 s_spec_l1In (a0.2.2.2.1,0,6,())).bind fun(y0:Y1_6×Unit)=>bif !y0.1.1 then some ((false,()),())else bif decide ((↑(List.length a0.2.2.2.2.1):Int)>2)then some ((false,()),())else bif decide ((↑(List.length a0.2.2.2.2.2.1):Int)>40)then some ((false,()),())else l0 a0 0
def F(call:Cl)(k:Nat)(a0:Y1_1):Option R:=Fm call k (fun a0_ v0_0_=>L0 call k a0_ k v0_0_) a0
theorem L0_eq(call:Cl)(k:Nat)(J:Nat→St→Option R)(a0:Y1_1):∀(n:Nat)(x:(Int)),siteI E call n_spec_l3Room k s_spec_l3Room (a0,()) J 0 n (S0 a0 x)=L0 call k a0 n x:=by
  refine loop_eq (s:=s_spec_l3Room) (fun x=>S0 a0 x) (fun n x=>L0 call k a0 n x) (fun r x=>step0 call k a0 (fun v0_0=>r v0_0) x) (fun _=>rfl) (fun _ _=>rfl) fun J0 x=>?_
  kernel_rfl
theorem F_eq(call:Cl)(k:Nat)(a0:Y1_1):bodyK E call n_spec_l3Room k s_spec_l3Room (a0,())=F call k a0:=by
  exact Eq.trans (b:=Fm call k (fun a0 v0_0_=>siteI E call n_spec_l3Room k s_spec_l3Room (a0,()) (fun _ _=>none) 0 k (S0 a0 v0_0_)) a0) (by kernel_rfl) (congrArg (fun l=>Fm call k l a0) (funext fun a0=>funext fun v0_0_=>L0_eq call k (fun _ _=>none) a0 k v0_0_))
end spec_l3Room
/-! #### spec_l3Names-/
namespace spec_l3Names
abbrev R:=((Bool×Unit)×Unit)
def S0(a0:Y1_1)(a1:Y1_4)(v0_1:Int):St:=⟨mkS 51 [(1,.v tTl (a1)),(2,.p [500002] [] 0),(5,.v tI v0_1)],[([500002],.box (.v tPg ((a0.1),((a0.2.1),((a0.2.2.1),((a0.2.2.2.1),((a0.2.2.2.2.1),((a0.2.2.2.2.2.1),()))))))))]⟩
def step0(call:Cl)(k:Nat)(a0:Y1_1)(a1:Y1_4)(r0:(Int)→Option R)(v0_1:Int):Option R:=bif decide (v0_1<(↑a1.length:Int))then bif decide (0≤v0_1)then(lget a1 v0_1.toNat).bind fun(y1:Int×Int×Unit)=>bif y1.1==0 then bif decide (0≤v0_1)then(lget a1 v0_1.toNat).bind fun(y2:Int×Int×Unit)=>(call 219 s_spec_l3Size (a0,())).bind fun(y3:Y1_7×Unit)=>bif decide (y2.2.1≥y3.1.1)then some ((false,()),())else r0 (i64.wrap (v0_1+1))else none else bif y1.1==1 then bif decide (0≤v0_1)then(lget a1 v0_1.toNat).bind fun(y4:Int×Int×Unit)=>(call 256 s_spec_l3Vars (a0,())).bind fun(y5:Y1_7×Unit)=>bif decide (y4.2.1≥y5.1.1)then some ((false,()),())else r0 (i64.wrap (v0_1+1))else none else bif y1.1==2 then bif decide (0≤v0_1)then(lget a1 v0_1.toNat).bind fun(y6:Int×Int×Unit)=>bif decide (y6.2.1≥(↑a0.2.2.2.2.1.length:Int))then some ((false,()),())else r0 (i64.wrap (v0_1+1))else none else r0 (i64.wrap (v0_1+1))else none else some ((true,()),())
def L0(call:Cl)(k:Nat)(a0:Y1_1)(a1:Y1_4):Nat→(Int)→Option R|0,_=>none|n+1,v0_1=>step0 call k a0 a1 (L0 call k a0 a1 n) v0_1
def Fm(call:Cl)(k:Nat)(l0:Y1_0→Y1_3→(Int)→Option R)(a0:Y1_1)(a1:Y1_4):Option R:=(call 255 s_spec_ExpOk (a1,())).bind fun(y0:Y1_6×Unit)=>bif !y0.1.1 then some ((false,()),())else l0 a0 a1 0
def F(call:Cl)(k:Nat)(a0:Y1_1)(a1:Y1_4):Option R:=Fm call k (fun a0_ a1_ v0_1_=>L0 call k a0_ a1_ k v0_1_) a0 a1
theorem L0_eq(call:Cl)(k:Nat)(J:Nat→St→Option R)(a0:Y1_1)(a1:Y1_4):∀(n:Nat)(x:(Int)),siteI E call n_spec_l3Names k s_spec_l3Names (a0,a1,()) J 0 n (S0 a0 a1 x)=L0 call k a0 a1 n x:=by
  refine loop_eq (s:=s_spec_l3Names) (fun x=>S0 a0 a1 x) (fun n x=>L0 call k a0 a1 n x) (fun r x=>step0 call k a0 a1 (fun v0_1=>r v0_1) x) (fun _=>rfl) (fun _ _=>rfl) fun J0 x=>?_
  kernel_rfl
theorem F_eq(call:Cl)(k:Nat)(a0:Y1_1)(a1:Y1_4):bodyK E call n_spec_l3Names k s_spec_l3Names (a0,a1,())=F call k a0 a1:=by
  exact Eq.trans (b:=Fm call k (fun a0 a1 v0_1_=>siteI E call n_spec_l3Names k s_spec_l3Names (a0,a1,()) (fun _ _=>none) 0 k (S0 a0 a1 v0_1_)) a0 a1) (by kernel_rfl) (congrArg (fun l=>Fm call k l a0 a1) (funext fun a0=>funext fun a1=>funext fun v0_1_=>L0_eq call k (fun _ _=>none) a0 a1 k v0_1_))
end spec_l3Names
/-! #### spec_l3Exp-/
namespace spec_l3Exp
abbrev R:=((Bool×Unit)×Unit)
def S0(a0:Y1_1)(a1:Y1_4)(v0_1:Int):St:=⟨mkS 26 [(1,.v tTl (a1)),(2,.p [500002] [] 0),(5,.v tI v0_1)],[([500002],.box (.v tPg ((a0.1),((a0.2.1),((a0.2.2.1),((a0.2.2.2.1),((a0.2.2.2.2.1),((a0.2.2.2.2.2.1),()))))))))]⟩
def step0(call:Cl)(k:Nat)(a0:Y1_1)(a1:Y1_4)(r0:(Int)→Option R)(v0_1:Int):Option R:=bif decide (v0_1<(↑a1.length:Int))then bif decide (0≤v0_1)then(lget a1 v0_1.toNat).bind fun(y0:Int×Int×Unit)=>bif y0.1==17 then some ((false,()),())else r0 (i64.wrap (v0_1+1))else none else bif decide ((↑a1.length:Int)≤40)then(call 249 s_spec_l3Names (a0,a1,())).bind fun(y1:Y1_6×Unit)=>some ((y1.1.1,()),())else some ((false,()),())
def L0(call:Cl)(k:Nat)(a0:Y1_1)(a1:Y1_4):Nat→(Int)→Option R|0,_=>none|n+1,v0_1=>step0 call k a0 a1 (L0 call k a0 a1 n) v0_1
def Fm(call:Cl)(k:Nat)(l0:Y1_0→Y1_3→(Int)→Option R)(a0:Y1_1)(a1:Y1_4):Option R:=l0 a0 a1 0
def F(call:Cl)(k:Nat)(a0:Y1_1)(a1:Y1_4):Option R:=Fm call k (fun a0_ a1_ v0_1_=>L0 call k a0_ a1_ k v0_1_) a0 a1
theorem L0_eq(call:Cl)(k:Nat)(J:Nat→St→Option R)(a0:Y1_1)(a1:Y1_4):∀(n:Nat)(x:(Int)),siteI E call n_spec_l3Exp k s_spec_l3Exp (a0,a1,()) J 0 n (S0 a0 a1 x)=L0 call k a0 a1 n x:=by
  refine loop_eq (s:=s_spec_l3Exp) (fun x=>S0 a0 a1 x) (fun n x=>L0 call k a0 a1 n x) (fun r x=>step0 call k a0 a1 (fun v0_1=>r v0_1) x) (fun _=>rfl) (fun _ _=>rfl) fun J0 x=>?_
  kernel_rfl
theorem F_eq(call:Cl)(k:Nat)(a0:Y1_1)(a1:Y1_4):bodyK E call n_spec_l3Exp k s_spec_l3Exp (a0,a1,())=F call k a0 a1:=by
  exact Eq.trans (b:=Fm call k (fun a0 a1 v0_1_=>siteI E call n_spec_l3Exp k s_spec_l3Exp (a0,a1,()) (fun _ _=>none) 0 k (S0 a0 a1 v0_1_)) a0 a1) (by kernel_rfl) (congrArg (fun l=>Fm call k l a0 a1) (funext fun a0=>funext fun a1=>funext fun v0_1_=>L0_eq call k (fun _ _=>none) a0 a1 k v0_1_))
end spec_l3Exp
/-! #### spec_l3Stmt-/
namespace spec_l3Stmt
abbrev R:=((Bool×Unit)×Unit)
def Fm(call:Cl)(k:Nat)(a0:Y1_1)(a1:Y1_2):Option R:=bif a1.1==0 then(call 123 s_spec_l1In (a1.1,0,9,())).bind fun(y0:Y1_6×Unit)=>bif !y0.1.1 then some ((false,()),())else bif !true==decide ((↑(List.length a1.2.2.2.1):Int)>0)then some ((false,()),())else bif !(a1.1==1)==decide ((↑(List.length a1.2.2.1):Int)>0)then some ((false,()),())else(call 238 s_spec_l3Exp (a0,a1.2.2.2.1,())).bind fun(y1:Y1_6×Unit)=>bif !y1.1.1 then some ((false,()),())else bif a1.1==1 then(call 238 s_spec_l3Exp (a0,a1.2.2.1,())).bind fun(y2:Y1_6×Unit)=>bif !y2.1.1 then some ((false,()),())else bif a1.1==0 then(call 123 s_spec_l1In (a1.2.1,i64.wrap ((↑(List.length a0.2.1):Int)+(↑(List.length a0.2.2.1):Int)),i64.wrap (i64.wrap (i64.wrap ((↑(List.length a0.2.1):Int)+(↑(List.length a0.2.2.1):Int))+a0.2.2.2.1)-1),())).bind fun(y3:Y1_6×Unit)=>some ((y3.1.1,()),())else bif a1.1==1 then(call 123 s_spec_l1In (a1.2.1,0,i64.wrap ((↑(List.length a0.2.2.2.2.1):Int)-1),())).bind fun(y4:Y1_6×Unit)=>some ((y4.1.1,()),())else bif a1.1==5 then(call 123 s_spec_l1In (a1.2.1,0,4,())).bind fun(y5:Y1_6×Unit)=>some ((y5.1.1,()),())else bif a1.1==7 then bif a1.1==7 then(call 123 s_spec_l1In (a1.2.1,0,9,())).bind fun(y6:Y1_6×Unit)=>some ((y6.1.1,()),())else some ((a1.2.1==0,()),())else bif a1.1==9 then(call 123 s_spec_l1In (a1.2.1,0,9,())).bind fun(y7:Y1_6×Unit)=>some ((y7.1.1,()),())else some ((a1.2.1==0,()),())else bif a1.1==0 then(call 123 s_spec_l1In (a1.2.1,i64.wrap ((↑(List.length a0.2.1):Int)+(↑(List.length a0.2.2.1):Int)),i64.wrap (i64.wrap (i64.wrap ((↑(List.length a0.2.1):Int)+(↑(List.length a0.2.2.1):Int))+a0.2.2.2.1)-1),())).bind fun(y8:Y1_6×Unit)=>some ((y8.1.1,()),())else bif a1.1==1 then(call 123 s_spec_l1In (a1.2.1,0,i64.wrap ((↑(List.length a0.2.2.2.2.1):Int)-1),())).bind fun(y9:Y1_6×Unit)=>some ((y9.1.1,()),())else bif a1.1==5 then(call 123 s_spec_l1In (a1.2.1,0,4,())).bind fun(y10:Y1_6×Unit)=>some ((y10.1.1,()),())else bif a1.1==7 then bif a1.1==7 then(call 123 s_spec_l1In (a1.2.1,0,9,())).bind fun(y11:Y1_6×Unit)=>some ((y11.1.1,()),())else some ((a1.2.1==0,()),())else bif a1.1==9 then(call 123 s_spec_l1In (a1.2.1,0,9,())).bind fun(y12:Y1_6×Unit)=>some ((y12.1.1,()),())else some ((a1.2.1==0,()),())else bif a1.1==1 then(call 123 s_spec_l1In (a1.1,0,9,())).bind fun(y13:Y1_6×Unit)=>bif !y13.1.1 then some ((false,()),())else bif !true==decide ((↑(List.length a1.2.2.2.1):Int)>0)then some ((false,()),())else bif !(a1.1==1)==decide ((↑(List.length a1.2.2.1):Int)>0)then some ((false,()),())else(call 238 s_spec_l3Exp (a0,a1.2.2.2.1,())).bind fun(y14:Y1_6×Unit)=>bif !y14.1.1 then some ((false,()),())else bif a1.1==1 then(call 238 s_spec_l3Exp (a0,a1.2.2.1,())).bind fun(y15:Y1_6×Unit)=>bif !y15.1.1 then some ((false,()),())else bif a1.1==0 then(call 123 s_spec_l1In (a1.2.1,i64.wrap ((↑(List.length a0.2.1):Int)+(↑(List.length a0.2.2.1):Int)),i64.wrap (i64.wrap (i64.wrap ((↑(List.length a0.2.1):Int)+(↑(List.length a0.2.2.1):Int))+a0.2.2.2.1)-1),())).bind fun(y16:Y1_6×Unit)=>some ((y16.1.1,()),())else bif a1.1==1 then(call 123 s_spec_l1In (a1.2.1,0,i64.wrap ((↑(List.length a0.2.2.2.2.1):Int)-1),())).bind fun(y17:Y1_6×Unit)=>some ((y17.1.1,()),())else bif a1.1==5 then(call 123 s_spec_l1In (a1.2.1,0,4,())).bind fun(y18:Y1_6×Unit)=>some ((y18.1.1,()),())else bif a1.1==7 then bif a1.1==7 then(call 123 s_spec_l1In (a1.2.1,0,9,())).bind fun(y19:Y1_6×Unit)=>some ((y19.1.1,()),())else some ((a1.2.1==0,()),())else bif a1.1==9 then(call 123 s_spec_l1In (a1.2.1,0,9,())).bind fun(y20:Y1_6×Unit)=>some ((y20.1.1,()),())else some ((a1.2.1==0,()),())else bif a1.1==0 then(call 123 s_spec_l1In (a1.2.1,i64.wrap ((↑(List.length a0.2.1):Int)+(↑(List.length a0.2.2.1):Int)),i64.wrap (i64.wrap (i64.wrap ((↑(List.length a0.2.1):Int)+(↑(List.length a0.2.2.1):Int))+a0.2.2.2.1)-1),())).bind fun(y21:Y1_6×Unit)=>some ((y21.1.1,()),())else bif a1.1==1 then(call 123 s_spec_l1In (a1.2.1,0,i64.wrap ((↑(List.length a0.2.2.2.2.1):Int)-1),())).bind fun(y22:Y1_6×Unit)=>some ((y22.1.1,()),())else bif a1.1==5 then(call 123 s_spec_l1In (a1.2.1,0,4,())).bind fun(y23:Y1_6×Unit)=>some ((y23.1.1,()),())else bif a1.1==7 then bif a1.1==7 then(call 123 s_spec_l1In (a1.2.1,0,9,())).bind fun(y24:Y1_6×Unit)=>some ((y24.1.1,()),())else some ((a1.2.1==0,()),())else bif a1.1==9 then(call 123 s_spec_l1In (a1.2.1,0,9,())).bind fun(y25:Y1_6×Unit)=>some ((y25.1.1,()),())else some ((a1.2.1==0,()),())else bif a1.1==2 then(call 123 s_spec_l1In (a1.1,0,9,())).bind fun(y26:Y1_6×Unit)=>bif !y26.1.1 then some ((false,()),())else bif !true==decide ((↑(List.length a1.2.2.2.1):Int)>0)then some ((false,()),())else bif !(a1.1==1)==decide ((↑(List.length a1.2.2.1):Int)>0)then some ((false,()),())else(call 238 s_spec_l3Exp (a0,a1.2.2.2.1,())).bind fun(y27:Y1_6×Unit)=>bif !y27.1.1 then some ((false,()),())else bif a1.1==1 then(call 238 s_spec_l3Exp (a0,a1.2.2.1,())).bind fun(y28:Y1_6×Unit)=>bif !y28.1.1 then some ((false,()),())else bif a1.1==0 then(call 123 s_spec_l1In (a1.2.1,i64.wrap ((↑(List.length a0.2.1):Int)+(↑(List.length a0.2.2.1):Int)),i64.wrap (i64.wrap (i64.wrap ((↑(List.length a0.2.1):Int)+(↑(List.length a0.2.2.1):Int))+a0.2.2.2.1)-1),())).bind fun(y29:Y1_6×Unit)=>some ((y29.1.1,()),())else bif a1.1==1 then(call 123 s_spec_l1In (a1.2.1,0,i64.wrap ((↑(List.length a0.2.2.2.2.1):Int)-1),())).bind fun(y30:Y1_6×Unit)=>some ((y30.1.1,()),())else bif a1.1==5 then(call 123 s_spec_l1In (a1.2.1,0,4,())).bind fun(y31:Y1_6×Unit)=>some ((y31.1.1,()),())else bif a1.1==7 then bif a1.1==7 then(call 123 s_spec_l1In (a1.2.1,0,9,())).bind fun(y32:Y1_6×Unit)=>some ((y32.1.1,()),())else some ((a1.2.1==0,()),())else bif a1.1==9 then(call 123 s_spec_l1In (a1.2.1,0,9,())).bind fun(y33:Y1_6×Unit)=>some ((y33.1.1,()),())else some ((a1.2.1==0,()),())else bif a1.1==0 then(call 123 s_spec_l1In (a1.2.1,i64.wrap ((↑(List.length a0.2.1):Int)+(↑(List.length a0.2.2.1):Int)),i64.wrap (i64.wrap (i64.wrap ((↑(List.length a0.2.1):Int)+(↑(List.length a0.2.2.1):Int))+a0.2.2.2.1)-1),())).bind fun(y34:Y1_6×Unit)=>some ((y34.1.1,()),())else bif a1.1==1 then(call 123 s_spec_l1In (a1.2.1,0,i64.wrap ((↑(List.length a0.2.2.2.2.1):Int)-1),())).bind fun(y35:Y1_6×Unit)=>some ((y35.1.1,()),())else bif a1.1==5 then(call 123 s_spec_l1In (a1.2.1,0,4,())).bind fun(y36:Y1_6×Unit)=>some ((y36.1.1,()),())else bif a1.1==7 then bif a1.1==7 then(call 123 s_spec_l1In (a1.2.1,0,9,())).bind fun(y37:Y1_6×Unit)=>some ((y37.1.1,()),())else some ((a1.2.1==0,()),())else bif a1.1==9 then(call 123 s_spec_l1In (a1.2.1,0,9,())).bind fun(y38:Y1_6×Unit)=>some ((y38.1.1,()),())else some ((a1.2.1==0,()),())else(call 123 s_spec_l1In (a1.1,0,9,())).bind fun(y39:Y1_6×Unit)=>bif !y39.1.1 then some ((false,()),())else bif !(a1.1==6)==decide ((↑(List.length a1.2.2.2.1):Int)>0)then some ((false,()),())else bif !(a1.1==1)==decide ((↑(List.length a1.2.2.1):Int)>0)then some ((false,()),())else bif a1.1==6 then(call 238 s_spec_l3Exp (a0,a1.2.2.2.1,())).bind fun(y40:Y1_6×Unit)=>bif !y40.1.1 then some ((false,()),())else bif a1.1==1 then(call 238 s_spec_l3Exp (a0,a1.2.2.1,())).bind fun(y41:Y1_6×Unit)=>bif !y41.1.1 then some ((false,()),())else bif a1.1==0 then(call 123 s_spec_l1In (a1.2.1,i64.wrap ((↑(List.length a0.2.1):Int)+(↑(List.length a0.2.2.1):Int)),i64.wrap (i64.wrap (i64.wrap ((↑(List.length a0.2.1):Int)+(↑(List.length a0.2.2.1):Int))+a0.2.2.2.1)-1),())).bind fun(y42:Y1_6×Unit)=>some ((y42.1.1,()),())else bif a1.1==1 then(call 123 s_spec_l1In (a1.2.1,0,i64.wrap ((↑(List.length a0.2.2.2.2.1):Int)-1),())).bind fun(y43:Y1_6×Unit)=>some ((y43.1.1,()),())else bif a1.1==5 then(call 123 s_spec_l1In (a1.2.1,0,4,())).bind fun(y44:Y1_6×Unit)=>some ((y44.1.1,()),())else bif a1.1==7 then bif a1.1==7 then(call 123 s_spec_l1In (a1.2.1,0,9,())).bind fun(y45:Y1_6×Unit)=>some ((y45.1.1,()),())else some ((a1.2.1==0,()),())else bif a1.1==9 then(call 123 s_spec_l1In (a1.2.1,0,9,())).bind fun(y46:Y1_6×Unit)=>some ((y46.1.1,()),())else some ((a1.2.1==0,()),())else bif a1.1==0 then(call 123 s_spec_l1In (a1.2.1,i64.wrap ((↑(List.length a0.2.1):Int)+(↑(List.length a0.2.2.1):Int)),i64.wrap (i64.wrap (i64.wrap ((↑(List.length a0.2.1):Int)+(↑(List.length a0.2.2.1):Int))+a0.2.2.2.1)-1),())).bind fun(y47:Y1_6×Unit)=>some ((y47.1.1,()),())else bif a1.1==1 then(call 123 s_spec_l1In (a1.2.1,0,i64.wrap ((↑(List.length a0.2.2.2.2.1):Int)-1),())).bind fun(y48:Y1_6×Unit)=>some ((y48.1.1,()),())else bif a1.1==5 then(call 123 s_spec_l1In (a1.2.1,0,4,())).bind fun(y49:Y1_6×Unit)=>some ((y49.1.1,()),())else bif a1.1==7 then bif a1.1==7 then(call 123 s_spec_l1In (a1.2.1,0,9,())).bind fun(y50:Y1_6×Unit)=>some ((y50.1.1,()),())else some ((a1.2.1==0,()),())else bif a1.1==9 then(call 123 s_spec_l1In (a1.2.1,0,9,())).bind fun(y51:Y1_6×Unit)=>some ((y51.1.1,()),())else some ((a1.2.1==0,()),())else bif a1.1==1 then(call 238 s_spec_l3Exp (a0,a1.2.2.1,())).bind fun(y52:Y1_6×Unit)=>bif !y52.1.1 then some ((false,()),())else bif a1.1==0 then(call 123 s_spec_l1In (a1.2.1,i64.wrap ((↑(List.length a0.2.1):Int)+(↑(List.length a0.2.2.1):Int)),i64.wrap (i64.wrap (i64.wrap ((↑(List.length a0.2.1):Int)+(↑(List.length a0.2.2.1):Int))+a0.2.2.2.1)-1),())).bind fun(y53:Y1_6×Unit)=>some ((y53.1.1,()),())else bif a1.1==1 then(call 123 s_spec_l1In (a1.2.1,0,i64.wrap ((↑(List.length a0.2.2.2.2.1):Int)-1),())).bind fun(y54:Y1_6×Unit)=>some ((y54.1.1,()),())else bif a1.1==5 then(call 123 s_spec_l1In (a1.2.1,0,4,())).bind fun(y55:Y1_6×Unit)=>some ((y55.1.1,()),())else bif a1.1==7 then bif a1.1==7 then(call 123 s_spec_l1In (a1.2.1,0,9,())).bind fun(y56:Y1_6×Unit)=>some ((y56.1.1,()),())else some ((a1.2.1==0,()),())else bif a1.1==9 then(call 123 s_spec_l1In (a1.2.1,0,9,())).bind fun(y57:Y1_6×Unit)=>some ((y57.1.1,()),())else some ((a1.2.1==0,()),())else bif a1.1==0 then(call 123 s_spec_l1In (a1.2.1,i64.wrap ((↑(List.length a0.2.1):Int)+(↑(List.length a0.2.2.1):Int)),i64.wrap (i64.wrap (i64.wrap ((↑(List.length a0.2.1):Int)+(↑(List.length a0.2.2.1):Int))+a0.2.2.2.1)-1),())).bind fun(y58:Y1_6×Unit)=>some ((y58.1.1,()),())else bif a1.1==1 then(call 123 s_spec_l1In (a1.2.1,0,i64.wrap ((↑(List.length a0.2.2.2.2.1):Int)-1),())).bind fun(y59:Y1_6×Unit)=>some ((y59.1.1,()),())else bif a1.1==5 then(call 123 s_spec_l1In (a1.2.1,0,4,())).bind fun(y60:Y1_6×Unit)=>some ((y60.1.1,()),())else bif a1.1==7 then bif a1.1==7 then(call 123 s_spec_l1In (a1.2.1,0,9,())).bind fun(y61:Y1_6×Unit)=>some ((y61.1.1,()),())else some ((a1.2.1==0,()),())else bif a1.1==9 then(call 123 s_spec_l1In (a1.2.1,0,9,())).bind fun(y62:Y1_6×Unit)=>some ((y62.1.1,()),())else some ((a1.2.1==0,()),())
def F(call:Cl)(k:Nat)(a0:Y1_1)(a1:Y1_2):Option R:=Fm call k a0 a1
theorem F_eq(call:Cl)(k:Nat)(a0:Y1_1)(a1:Y1_2):bodyK E call n_spec_l3Stmt k s_spec_l3Stmt (a0,a1,())=F call k a0 a1:=by kernel_rfl
end spec_l3Stmt
/-! #### spec_l3Stmts-/
namespace spec_l3Stmts
abbrev R:=((Bool×Unit)×Unit)
def S0(a0:Y1_1)(v0_0:Int):St:=⟨mkS 19 [(1,.p [500001] [] 0),(3,.v tI v0_0)],[([500001],.box (.v tPg ((a0.1),((a0.2.1),((a0.2.2.1),((a0.2.2.2.1),((a0.2.2.2.2.1),((a0.2.2.2.2.2.1),()))))))))]⟩
def step0(call:Cl)(k:Nat)(a0:Y1_1)(r0:(Int)→Option R)(v0_0:Int):Option R:=bif decide (v0_0<(↑a0.2.2.2.2.2.1.length:Int))then bif decide (0≤v0_0)then(lget a0.2.2.2.2.2.1 v0_0.toNat).bind fun(y0:(Int×Int×List (Int×Int×Unit)×List (Int×Int×Unit)×Unit))=>(call 220 s_spec_l3Stmt (a0,y0,())).bind fun(y1:Y1_6×Unit)=>bif !y1.1.1 then some ((false,()),())else r0 (i64.wrap (v0_0+1))else none else some ((true,()),())
def L0(call:Cl)(k:Nat)(a0:Y1_1):Nat→(Int)→Option R|0,_=>none|n+1,v0_0=>step0 call k a0 (L0 call k a0 n) v0_0
def Fm(call:Cl)(k:Nat)(l0:Y1_0→(Int)→Option R)(a0:Y1_1):Option R:=l0 a0 0
def F(call:Cl)(k:Nat)(a0:Y1_1):Option R:=Fm call k (fun a0_ v0_0_=>L0 call k a0_ k v0_0_) a0
theorem L0_eq(call:Cl)(k:Nat)(J:Nat→St→Option R)(a0:Y1_1):∀(n:Nat)(x:(Int)),siteI E call n_spec_l3Stmts k s_spec_l3Stmts (a0,()) J 0 n (S0 a0 x)=L0 call k a0 n x:=by
  refine loop_eq (s:=s_spec_l3Stmts) (fun x=>S0 a0 x) (fun n x=>L0 call k a0 n x) (fun r x=>step0 call k a0 (fun v0_0=>r v0_0) x) (fun _=>rfl) (fun _ _=>rfl) fun J0 x=>?_
  kernel_rfl
theorem F_eq(call:Cl)(k:Nat)(a0:Y1_1):bodyK E call n_spec_l3Stmts k s_spec_l3Stmts (a0,())=F call k a0:=by
  exact Eq.trans (b:=Fm call k (fun a0 v0_0_=>siteI E call n_spec_l3Stmts k s_spec_l3Stmts (a0,()) (fun _ _=>none) 0 k (S0 a0 v0_0_)) a0) (by kernel_rfl) (congrArg (fun l=>Fm call k l a0) (funext fun a0=>funext fun v0_0_=>L0_eq call k (fun _ _=>none) a0 k v0_0_))
end spec_l3Stmts
end Go.Proofs.YtjgfofcgmcnblaaGreat.Pf
