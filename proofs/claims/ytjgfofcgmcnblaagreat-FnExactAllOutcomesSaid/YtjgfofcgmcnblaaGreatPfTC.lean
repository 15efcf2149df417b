/- Printed texts: what the reading of these functions is. No condition. -/
import Derived.Test.YtjgfofcgmcnblaaGreatPvEnv
import Derived.KernelRfl
set_option linter.all false
set_option maxHeartbeats 2000000
namespace Go.Proofs.YtjgfofcgmcnblaaGreat.Pf
open Go Go.Pv IntKind
abbrev YC_0:Type:=(Int×((List (Int×(Int×Unit)))×((List (Int×(Int×Unit)))×(Int×((List Int)×((List (Int×(Int×((List (Int×(Int×Unit)))×((List (Int×(Int×Unit)))×Unit)))))×Unit))))))
abbrev YC_1:Type:=((List ((List Int)×(Int×(Int×Unit)))))
abbrev YC_2:Type:=(List ((List Int)×(Int×(Int×Unit))))
abbrev YC_3:Type:=((Option (List (ByteArray×Int))))
abbrev YC_4:Type:=(((List Int)×Unit)×Unit)
abbrev YC_5:Type:=(List (List Int))
/-! #### spec_l8Table-/
namespace spec_l8Table
abbrev R:=(((List (List Int))×((List ((List Int)×(Int×(Int×Unit))))×Unit))×Unit)
def S0(a0:YC_0)(y0:(YC_4))(v0_0:Int)(v0_1:YC_2)(v0_2:YC_5):St:=⟨mkS 34 [(1,.p [500001] [] 0),(4,.ref [500004]),(5,.ref [500005]),(6,.ref [500006]),(7,.v tI v0_0)],[([500006],.list 38 (.pair (.slc tI) tTm) v0_1),([500005],.list 28 (.slc tI) v0_2),([500004],.list 2 tI (y0.1.1)),([500001],.box (.v tPg ((a0.1),((a0.2.1),((a0.2.2.1),((a0.2.2.2.1),((a0.2.2.2.2.1),((a0.2.2.2.2.2.1),()))))))))]⟩
def step0(call:Cl)(k:Nat)(a0:YC_0)(y0:YC_4)(r0:(Int)→YC_1→(YC_5)→Option R)(v0_0:Int)(v0_1:YC_2)(v0_2:YC_5):Option R:=(call 90 s_spec_l7Count (y0.1.1,())).bind fun(y1:(Int×Unit)×Unit)=>bif decide (v0_0<y1.1.1)then(call 154 s_spec_l7At (y0.1.1,v0_0,())).bind fun(y2:((List Int×Unit)×Unit))=>bif decide ((v0_2.length+[y2.1.1].length)*ti28.bytes≤140737488355328)then(call 167 s_spec_l6Of (a0,y2.1.1,())).bind fun(y3:(((List Int×Int×Int×Unit)×Unit)×Unit))=>bif decide ((v0_1.length+[y3.1.1].length)*ti38.bytes≤140737488355328)then r0 (i64.wrap (v0_0+1)) (v0_1++[y3.1.1]) (v0_2++[y2.1.1])else none else none else some ((v0_2,v0_1,()),())
def L0(call:Cl)(k:Nat)(a0:YC_0)(y0:YC_4):Nat→(Int)→YC_1→(YC_5)→Option R|0,_,_,_=>none|n+1,v0_0,v0_1,v0_2=>step0 call k a0 y0 (L0 call k a0 y0 n) v0_0 v0_1 v0_2
def Fm(call:Cl)(k:Nat)(l0:(YC_0)→(YC_4)→(Int)→YC_1→(YC_5)→Option R)(a0:YC_0):Option R:=(call 91 s_spec_l7Maxes (a0,())).bind fun(y0:((List Int×Unit)×Unit))=>l0 a0 y0 0 [] []
def F(call:Cl)(k:Nat)(a0:YC_0):Option R:=Fm call k (fun a0_ y0_ v0_0_ v0_1_ v0_2_=>L0 call k a0_ y0_ k v0_0_ v0_1_ v0_2_) a0
theorem L0_eq(call:Cl)(k:Nat)(J:Nat→St→Option R)(a0:YC_0)(y0:YC_4):∀(n:Nat)(x:((Int)×YC_1×(YC_5))),siteI E call n_spec_l8Table k s_spec_l8Table (a0,()) J 0 n (S0 a0 y0 x.1 x.2.1 x.2.2)=L0 call k a0 y0 n x.1 x.2.1 x.2.2:=by
  refine loop_eq (s:=s_spec_l8Table) (fun x=>S0 a0 y0 x.1 x.2.1 x.2.2) (fun n x=>L0 call k a0 y0 n x.1 x.2.1 x.2.2) (fun r x=>step0 call k a0 y0 (fun v0_0 v0_1 v0_2=>r (v0_0,v0_1,v0_2)) x.1 x.2.1 x.2.2) (fun _=>rfl) (fun _ _=>rfl) fun J0 x=>?_
  kernel_rfl
theorem F_eq(call:Cl)(k:Nat)(a0:YC_0):bodyK E call n_spec_l8Table k s_spec_l8Table (a0,())=F call k a0:=by
  exact Eq.trans (b:=Fm call k (fun a0 y0 v0_0_ v0_1_ v0_2_=>siteI E call n_spec_l8Table k s_spec_l8Table (a0,()) (fun _ _=>none) 0 k (S0 a0 y0 v0_0_ v0_1_ v0_2_)) a0) (by kernel_rfl) (congrArg (fun l=>Fm call k l a0) (funext fun a0=>funext fun y0=>funext fun v0_0_=>funext fun v0_1_=>funext fun v0_2_=>L0_eq call k (fun _ _=>none) a0 y0 k (v0_0_,v0_1_,v0_2_)))
end spec_l8Table
/-! #### impl_AllOutcomes_1-/
namespace impl_AllOutcomes_1
abbrev R:=((Bool×Unit)×Unit)
def Fm(call:Cl)(k:Nat)(a0:(List Int))(a1:(List Int)):Option R:=some ((true,()),())
def F(call:Cl)(k:Nat)(a0:(List Int))(a1:(List Int)):Option R:=Fm call k a0 a1
theorem F_eq(call:Cl)(k:Nat)(a0:(List Int))(a1:(List Int)):bodyK E call n_impl_AllOutcomes_1 k s_impl_AllOutcomes_1 (a0,a1,())=F call k a0 a1:=by kernel_rfl
end impl_AllOutcomes_1
/-! #### impl_tallyOf__impl_AllOutcomes_1-/
namespace impl_tallyOf__impl_AllOutcomes_1
abbrev R:=((((Option (List (ByteArray×Int)))×((List ((List Int)×(Int×(Int×Unit))))×((List Int)×Unit)))×Unit)×Unit)
def S0(a0:YC_0)(v0_1:Int)(v0_2:(List Int))(v0_3:YC_2)(v0_4:(Option (List (ByteArray×Int)))):St:=⟨mkS 37 [(0,.v (.sptr tPg) (a0)),(1,.v (.clo 134 .unit) ()),(4,.p [500004] [] 0),(5,.p [500005] [] 0),(6,.v tI v0_1)],[([500005,5,1,1,0],.list 2 tI v0_2),([500005,5,1,0],.list 38 (.pair (.own 2 tI) tTm) v0_3),([500005,5,0],.map 141 .str tI v0_4),([500005],.box (.pr (.ref [500005,5,0]) (.pr (.ref [500005,5,1,0]) (.pr (.ref [500005,5,1,1,0]) (.v .unit ()))))),([500004,5,1,1,0],.list 2 tI ([])),([500004,5,1,0],.list 38 (.pair (.own 2 tI) tTm) ([])),([500004,5,0],.map 141 .str tI (none)),([500004],.box (.pr (.ref [500004,5,0]) (.pr (.ref [500004,5,1,0]) (.pr (.ref [500004,5,1,1,0]) (.v .unit ())))))]⟩
def step0(call:Cl)(k:Nat)(a0:YC_0)(r0:(Int)→((List Int))→YC_1→YC_3→Option R)(v0_1:Int)(v0_2:(List Int))(v0_3:YC_2)(v0_4:(Option (List (ByteArray×Int)))):Option R:=(call 160 s_impl_manyInputs (a0,())).bind fun(y0:(Int×Unit)×Unit)=>bif decide (v0_1<y0.1.1)then(call 161 s_impl_inputOf (a0,v0_1,())).bind fun(y1:((List Int×List Int×Unit)×Unit))=>(call 134 s_impl_AllOutcomes_1 (y1.1.1,y1.1.2.1,())).bind fun(y2:(Bool×Unit)×Unit)=>bif y2.1.1 then(call 162 s_impl_ran (a0,y1.1.1,y1.1.2.1,())).bind fun(y3:(((List Int×Int×Int×Unit)×(List Int×List (List Int)×Unit)×Unit)×Unit))=>(call 175 s_impl_tally_add ((v0_4,v0_3,v0_2,()),y3.1.1,())).bind fun(y4:Unit×(Option (List (ByteArray×Int))×List (List Int×Int×Int×Unit)×List Int×Unit)×Unit)=>r0 (i64.wrap (v0_1+1)) y4.2.1.2.2.1 y4.2.1.2.1 y4.2.1.1 else r0 (i64.wrap (v0_1+1)) v0_2 v0_3 v0_4 else some (((v0_4,v0_3,v0_2,()),()),())
def L0(call:Cl)(k:Nat)(a0:YC_0):Nat→(Int)→((List Int))→YC_1→YC_3→Option R|0,_,_,_,_=>none|n+1,v0_1,v0_2,v0_3,v0_4=>step0 call k a0 (L0 call k a0 n) v0_1 v0_2 v0_3 v0_4
def Fm(call:Cl)(k:Nat)(l0:(YC_0)→(Int)→((List Int))→YC_1→YC_3→Option R)(a0:YC_0)(a1:Unit):Option R:=l0 a0 0 [] [] none
def F(call:Cl)(k:Nat)(a0:YC_0)(a1:Unit):Option R:=Fm call k (fun a0_ v0_1_ v0_2_ v0_3_ v0_4_=>L0 call k a0_ k v0_1_ v0_2_ v0_3_ v0_4_) a0 a1
theorem L0_eq(call:Cl)(k:Nat)(J:Nat→St→Option R)(a0:YC_0)(a1:Unit):∀(n:Nat)(x:((Int)×((List Int))×YC_1×YC_3)),siteI E call n_impl_tallyOf__impl_AllOutcomes_1 k s_impl_tallyOf__impl_AllOutcomes_1 (a0,a1,()) J 0 n (S0 a0 x.1 x.2.1 x.2.2.1 x.2.2.2)=L0 call k a0 n x.1 x.2.1 x.2.2.1 x.2.2.2:=by
  refine loop_eq (s:=s_impl_tallyOf__impl_AllOutcomes_1) (fun x=>S0 a0 x.1 x.2.1 x.2.2.1 x.2.2.2) (fun n x=>L0 call k a0 n x.1 x.2.1 x.2.2.1 x.2.2.2) (fun r x=>step0 call k a0 (fun v0_1 v0_2 v0_3 v0_4=>r (v0_1,v0_2,v0_3,v0_4)) x.1 x.2.1 x.2.2.1 x.2.2.2) (fun _=>rfl) (fun _ _=>rfl) fun J0 x=>?_
  kernel_rfl
theorem F_eq(call:Cl)(k:Nat)(a0:YC_0)(a1:Unit):bodyK E call n_impl_tallyOf__impl_AllOutcomes_1 k s_impl_tallyOf__impl_AllOutcomes_1 (a0,a1,())=F call k a0 a1:=by
  exact Eq.trans (b:=Fm call k (fun a0 v0_1_ v0_2_ v0_3_ v0_4_=>siteI E call n_impl_tallyOf__impl_AllOutcomes_1 k s_impl_tallyOf__impl_AllOutcomes_1 (a0,a1,()) (fun _ _=>none) 0 k (S0 a0 v0_1_ v0_2_ v0_3_ v0_4_)) a0 a1) (by kernel_rfl) (congrArg (fun l=>Fm call k l a0 a1) (funext fun a0=>funext fun v0_1_=>funext fun v0_2_=>funext fun v0_3_=>funext fun v0_4_=>L0_eq call k (fun _ _=>none) a0 a1 k (v0_1_,v0_2_,v0_3_,v0_4_)))
end impl_tallyOf__impl_AllOutcomes_1
/-! #### spec_AllOutcomes-/
namespace spec_AllOutcomes
abbrev R:=(((List ((List Int)×(Int×(Int×Unit))))×Unit)×Unit)
def Fm(call:Cl)(k:Nat)(a0:YC_0):Option R:=(call 87 s_spec_ProgOk (a0,())).bind fun(y0:(Bool×Unit)×Unit)=>bif !y0.1.1 then some (([],()),())else(call 106 s_spec_l8Table (a0,())).bind fun(y1:((List (List Int)×List (List Int×Int×Int×Unit)×Unit)×Unit))=>(call 110 s_spec_l8Different (y1.1.2.1,())).bind fun(y2:((List (List Int×Int×Int×Unit)×Unit)×Unit))=>some ((y2.1.1,()),())
def F(call:Cl)(k:Nat)(a0:YC_0):Option R:=Fm call k a0
theorem F_eq(call:Cl)(k:Nat)(a0:YC_0):bodyK E call n_spec_AllOutcomes k s_spec_AllOutcomes (a0,())=F call k a0:=by kernel_rfl
end spec_AllOutcomes
/-! #### impl_AllOutcomes-/
namespace impl_AllOutcomes
abbrev R:=(((List ((List Int)×(Int×(Int×Unit))))×Unit)×Unit)
def Fm(call:Cl)(k:Nat)(a0:YC_0):Option R:=(call 98 s_impl_ProgOk (a0,())).bind fun(y0:(Bool×Unit)×Unit)=>bif !y0.1.1 then some (([],()),())else(call 13500133 s_impl_tallyOf__impl_AllOutcomes_1 (a0,(),())).bind fun(y1:((Option (List (ByteArray×Int))×List (List Int×Int×Int×Unit)×List Int×Unit)×Unit)×Unit)=>some ((y1.1.1.2.1,()),())
def F(call:Cl)(k:Nat)(a0:YC_0):Option R:=Fm call k a0
theorem F_eq(call:Cl)(k:Nat)(a0:YC_0):bodyK E call n_impl_AllOutcomes k s_impl_AllOutcomes (a0,())=F call k a0:=by kernel_rfl
end impl_AllOutcomes
end Go.Proofs.YtjgfofcgmcnblaaGreat.Pf
