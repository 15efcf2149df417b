/- Printed texts: what the reading of these functions is. No condition. -/
import Derived.Test.YtjgfofcgmcnblaaGreatPvEnv
import Derived.KernelRfl
set_option linter.all false
set_option maxHeartbeats 2000000
namespace Go.Proofs.YtjgfofcgmcnblaaGreat.Pf
open Go Go.Pv IntKind
abbrev YLExactAllOutcomes_0:Type:=(Int×((List (Int×(Int×Unit)))×((List (Int×(Int×Unit)))×(Int×((List Int)×((List (Int×(Int×((List (Int×(Int×Unit)))×((List (Int×(Int×Unit)))×Unit)))))×Unit))))))
abbrev YLExactAllOutcomes_1:Type:=(((Int×List (Int×Int×Unit)×List (Int×Int×Unit)×Int×List Int×List (Int×Int×List (Int×Int×Unit)×List (Int×Int×Unit)×Unit)×Unit)×Unit)×Unit)
abbrev YLExactAllOutcomes_2:Type:=((List (List Int×Int×Int×Unit)×Unit)×Unit)
/-! #### laws_FnExactAllOutcomes-/
namespace laws_FnExactAllOutcomes
abbrev R:=((Bool×Unit)×Unit)
def Fm(call:Cl)(k:Nat)(a0:YLExactAllOutcomes_0):Option R:=(call 38 s_laws_szProg (a0,1048576,())).bind fun(y0:(Int×Unit)×Unit)=>bif decide (y0.1.1<0)then some ((true,()),())else(call 40 s_laws_toProg (a0,())).bind fun(y1:YLExactAllOutcomes_1)=>(call 53 s_spec_AllOutcomes (y1.1.1,())).bind fun(y2:YLExactAllOutcomes_2)=>(call 40 s_laws_toProg (a0,())).bind fun(y3:YLExactAllOutcomes_1)=>(call 52 s_impl_AllOutcomes (y3.1.1,())).bind fun(y4:YLExactAllOutcomes_2)=>(call 54 s_laws_eqOutcomeS (y4.1.1,y2.1.1,())).bind fun(y5:(Bool×Unit)×Unit)=>bif !y5.1.1 then some ((false,()),())else(call 40 s_laws_toProg (a0,())).bind fun(y6:YLExactAllOutcomes_1)=>(call 42 s_laws_eqProg (y3.1.1,y6.1.1,())).bind fun(y7:(Bool×Unit)×Unit)=>bif !y7.1.1 then some ((false,()),())else(call 55 s_laws_markProg (y3.1.1,1,())).bind fun(y8:((Int×Unit)×(Int×List (Int×Int×Unit)×List (Int×Int×Unit)×Int×List Int×List (Int×Int×List (Int×Int×Unit)×List (Int×Int×Unit)×Unit)×Unit)×Unit))=>bif decide (y8.1.1<0)then some ((false,()),())else(call 54 s_laws_eqOutcomeS (y4.1.1,y2.1.1,())).bind fun(y9:(Bool×Unit)×Unit)=>bif !y9.1.1 then some ((false,()),())else(call 56 s_laws_markOutcomeS (y4.1.1,1,())).bind fun(y10:((Int×Unit)×List (List Int×Int×Int×Unit)×Unit))=>(call 57 s_laws_heldOutcomeS (y10.2.1,1,())).bind fun(y11:(Int×Unit)×Unit)=>bif decide (y11.1.1<0)then some ((false,()),())else bif y11.1.1!=y10.1.1 then some ((false,()),())else(call 40 s_laws_toProg (a0,())).bind fun(y12:YLExactAllOutcomes_1)=>(call 52 s_impl_AllOutcomes (y12.1.1,())).bind fun(y13:YLExactAllOutcomes_2)=>(call 54 s_laws_eqOutcomeS (y13.1.1,y2.1.1,())).bind fun(y14:(Bool×Unit)×Unit)=>bif !y14.1.1 then some ((false,()),())else(call 57 s_laws_heldOutcomeS (y10.2.1,1,())).bind fun(y15:(Int×Unit)×Unit)=>bif decide (y15.1.1<0)then some ((false,()),())else bif y15.1.1!=y10.1.1 then some ((false,()),())else some ((true,()),())
def F(call:Cl)(k:Nat)(a0:YLExactAllOutcomes_0):Option R:=Fm call k a0
theorem F_eq(call:Cl)(k:Nat)(a0:YLExactAllOutcomes_0):bodyK E call n_laws_FnExactAllOutcomes k s_laws_FnExactAllOutcomes (a0,())=F call k a0:=by kernel_rfl
end laws_FnExactAllOutcomes
end Go.Proofs.YtjgfofcgmcnblaaGreat.Pf
