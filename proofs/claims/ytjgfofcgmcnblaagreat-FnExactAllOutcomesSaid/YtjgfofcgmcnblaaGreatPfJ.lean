/- Well nested bodies: the program's nester reads the parts, or gives up just where the reference does. Its condition: the body is no longer than a law looks at. -/
import Derived.Test.YtjgfofcgmcnblaaGreatPfI
set_option maxHeartbeats 2000000
set_option linter.all false
namespace Go.Proofs.YtjgfofcgmcnblaaGreat.Pf
open Go Go.Pv
abbrev Nd:=Int×(List Tr×(List Tr×Unit))
abbrev ManyR:=(List Tr×(Bool×Unit))×((List Sm×(Int×(Int×(Int×Unit))))×Unit)
abbrev OneR:=(Nd×(Bool×Unit))×((List Sm×(Int×(Int×(Int×Unit))))×Unit)
def ManyL(b:List Sm)(i:Nat)(l:List Tr)(j:Nat):Prop:=∀d,b.length-i<d→∀(acc:List Nd)(m e:Int),acc.length≤i→
  Tq d (fun k q=>impl_nester_many.L0 (cl k) k q acc b (i:Int) m e) (fun(r:ManyR)=>∃m' e',r=((acc.map trI++l,true,()),(b,(j:Int),m',e',()),()))
def ManyLF(b:List Sm)(i:Nat):Prop:=∀d,b.length-i<d→∀(acc:List Nd)(m e:Int),acc.length≤i→
  Tq d (fun k q=>impl_nester_many.L0 (cl k) k q acc b (i:Int) m e) (fun(r:ManyR)=>∃l j m' e',r=((l,false,()),(b,j,m',e',()),()))
def Many(b:List Sm)(i:Nat)(l:List Tr)(j:Nat):Prop:=∀(m e:Int),Gv n_impl_nester_many s_impl_nester_many ((b,(i:Int),m,e,()),()) (fun(r:ManyR)=>∃m' e',r=((l,true,()),(b,(j:Int),m',e',()),()))
def ManyF(b:List Sm)(i:Nat):Prop:=∀(m e:Int),Gv n_impl_nester_many s_impl_nester_many ((b,(i:Int),m,e,()),()) (fun(r:ManyR)=>∃l j m' e',r=((l,false,()),(b,j,m',e',()),()))
def One(b:List Sm)(i:Nat)(n1 n2:List Tr)(j:Nat)(Q:Int→Int→Int→Int→Prop):Prop:=∀(m e:Int),Gv n_impl_nester_one s_impl_nester_one ((b,(i:Int),m,e,()),()) (fun(r:OneR)=>∃m' e',Q m e m' e'∧r=((((i:Int),n1,n2,()),true,()),(b,(j:Int),m',e',()),()))
def OneF(b:List Sm)(i:Nat):Prop:=∀(m e:Int),Gv n_impl_nester_one s_impl_nester_one ((b,(i:Int),m,e,()),()) (fun(r:OneR)=>∃x j m' e',r=((x,false,()),(b,j,m',e',()),()))
theorem ManyL.many {b:List Sm}{i j:Nat}{l:List Tr}(h:ManyL b i l j):Many b i l j:=by
  intro m e;refine Gv.of (fun k=>impl_nester_many.F_eq (cl k) k (b,(i:Int),m,e,())) ?_;unfold impl_nester_many.F impl_nester_many.Fm;exact Tq.diag (h (b.length-i+1) (by omega) [] m e (Nat.zero_le _))
theorem ManyLF.many {b:List Sm}{i:Nat}(h:ManyLF b i):ManyF b i:=by
  intro m e;refine Gv.of (fun k=>impl_nester_many.F_eq (cl k) k (b,(i:Int),m,e,())) ?_;unfold impl_nester_many.F impl_nester_many.Fm;exact Tq.diag (h (b.length-i+1) (by omega) [] m e (Nat.zero_le _))
theorem by132:ti260.bytes=56:=rfl
section
variable {b:List Sm}(hb:b.length≤1048576)
include hb
theorem nis_ans(i:Nat)(m e o:Int)(ho:o≠-1):Ans n_impl_nester_is s_impl_nester_is ((b,(i:Int),m,e,()),o,()) ((bo (opAt b i=o),()),(b,(i:Int),m,e,()),()):=by
  refine Gv.ans (Gv.of (fun k=>impl_nester_is.F_eq (cl k) k (b,(i:Int),m,e,()) o) ?_);unfold impl_nester_is.F impl_nester_is.Fm
  repeat'((first|refine .t ?_|refine .u ?_|refine .some lg0 ?_|refine .some lg ?_|refine .some lgI ?_|(refine .bif (fun zz=>?_) (fun zz=>?_)<;>try simp(disch:=omega)only[zs,w64,zt]at zz))<;>try dsimp only)
  . refine Tq.ret ?_;rw[bo_beq (Q:=opAt b i=o)];rw[opAt_lt (by omega)]
  . refine Tq.ret ?_;rw[bo_f];intro h;have:=opAt_in h ho;omega
/-! #### one node-/
theorem one_leaf {i:Nat}(hi:i<b.length)(h:opAt b i≠2∧opAt b i≠5∧opAt b i≠8):One b i [] [] (i+1) (fun m e m' e'=>m'=m∧e'=e):=by
  intro m e;rw[opAt_lt hi]at h;refine Gv.of (fun k=>impl_nester_one.F_eq (cl k) k (b,(i:Int),m,e,())) ?_;unfold impl_nester_one.F impl_nester_one.Fm
  repeat'((first|refine .t ?_|refine .u ?_|refine .some lg0 ?_|refine .some lg ?_|refine .some lgI ?_|(refine .bif (fun zz=>?_) (fun zz=>?_)<;>try simp(disch:=omega)only[zs,w64,zt]at zz))<;>try dsimp only)
  rw[ws hi (by omega)];exact Tq.ret ⟨_,_,⟨rfl,rfl⟩,rfl⟩
theorem one_one {i x:Nat}{l:List Tr}(h:opAt b i=2∨opAt b i=5)(h1:Many b (i+1) l x)(he:opAt b x=4):One b i l [] (x+1) (fun _ _ m' e'=>m'= -1∧e'=x):=by
  intro m e;have hi:i<b.length:=by rcases h with h|h<;>exact opAt_in h (by omega)
  have hx:x<b.length:=opAt_in he (by omega);rw[opAt_lt hi]at h;refine Gv.of (fun k=>impl_nester_one.F_eq (cl k) k (b,(i:Int),m,e,())) ?_;unfold impl_nester_one.F impl_nester_one.Fm;rw[ws hi (by omega)]
  repeat'((first|(refine .bind (h1 _ _).tq ?_;rintro y ⟨m',e',rfl⟩)|refine .ba (nis_ans hb _ _ _ _ (by omega)) ?_|refine .t ?_|refine .u ?_|refine .some lg0 ?_|refine .some lg ?_|refine .some lgI ?_|(refine .bif (fun zz=>?_) (fun zz=>?_)<;>try simp(disch:=omega)only[zs,w64,zt]at zz))<;>try dsimp only)
  all_goals
    rw[ws hx (by omega)];exact Tq.ret ⟨_,_,⟨rfl,rfl⟩,rfl⟩
theorem one_two {i x z:Nat}{l l2:List Tr}(h:(opAt b i=2∧opAt b x=3)∨(opAt b i=8∧opAt b x=9))(h1:Many b (i+1) l x)(h2:Many b (x+1) l2 z)(he:opAt b z=4):One b i l l2 (z+1) (fun _ _ m' e'=>m'=x∧e'=z):=by
  intro m e;have hi:i<b.length:=by rcases h with h|h<;>exact opAt_in h.1 (by omega)
  have hx:x<b.length:=by rcases h with h|h<;>exact opAt_in h.2 (by omega)
  have hz:z<b.length:=opAt_in he (by omega);rw[opAt_lt hi]at h;have h2:∀m e:Int,Gv n_impl_nester_many s_impl_nester_many ((b,IntKind.i64.wrap ((x:Int)+1),m,e,()),()) (fun(r:ManyR)=>∃m' e',r=((l2,true,()),(b,(z:Int),m',e',()),())):=by rw[ws hx (by omega)];exact h2
  refine Gv.of (fun k=>impl_nester_one.F_eq (cl k) k (b,(i:Int),m,e,())) ?_;unfold impl_nester_one.F impl_nester_one.Fm;rw[ws hi (by omega)]
  repeat'((first|(refine .bind (h1 _ _).tq ?_;rintro y ⟨m',e',rfl⟩)|(refine .bind (h2 _ _).tq ?_;rintro y ⟨m',e',rfl⟩)|refine .ba (nis_ans hb _ _ _ _ (by omega)) ?_|refine .t ?_|refine .u ?_|refine .some lg0 ?_|refine .some lg ?_|refine .some lgI ?_|(refine .bif (fun zz=>?_) (fun zz=>?_)<;>try simp(disch:=omega)only[zs,w64,zt]at zz))<;>try dsimp only)
  all_goals
    rw[ws hz (by omega)];exact Tq.ret ⟨_,_,⟨rfl,rfl⟩,rfl⟩
theorem one_f1 {i:Nat}(h:opAt b i=2∨opAt b i=5∨opAt b i=8)(h1:ManyF b (i+1)):OneF b i:=by
  intro m e;have hi:i<b.length:=by rcases h with h|h|h<;>exact opAt_in h (by omega)
  rw[opAt_lt hi]at h;refine Gv.of (fun k=>impl_nester_one.F_eq (cl k) k (b,(i:Int),m,e,())) ?_;unfold impl_nester_one.F impl_nester_one.Fm;rw[ws hi (by omega)]
  repeat'((first|(refine .bind (h1 _ _).tq ?_;rintro y ⟨l',j',m',e',rfl⟩)|refine .t ?_|refine .u ?_|refine .some lg0 ?_|refine .some lg ?_|refine .some lgI ?_|(refine .bif (fun zz=>?_) (fun zz=>?_)<;>try simp(disch:=omega)only[zs,w64,zt]at zz))<;>try dsimp only)
  all_goals exact Tq.ret ⟨_,_,_,_,rfl⟩
theorem one_f2 {i x:Nat}{l:List Tr}(h0:opAt b i=2∨opAt b i=5∨opAt b i=8)(h1:Many b (i+1) l x)(h:¬((opAt b i=2∧opAt b x=3)∨(opAt b i=8∧opAt b x=9)))(h2:¬(opAt b x=4∧opAt b i≠8)):OneF b i:=by
  intro m e;have hi:i<b.length:=by rcases h0 with h|h|h<;>exact opAt_in h (by omega)
  rw[opAt_lt hi]at h h2 h0;refine Gv.of (fun k=>impl_nester_one.F_eq (cl k) k (b,(i:Int),m,e,())) ?_;unfold impl_nester_one.F impl_nester_one.Fm;rw[ws hi (by omega)]
  repeat'((first|(refine .bind (h1 _ _).tq ?_;rintro y ⟨m',e',rfl⟩)|refine .ba (nis_ans hb _ _ _ _ (by omega)) ?_|refine .t ?_|refine .u ?_|refine .some lg0 ?_|refine .some lg ?_|refine .some lgI ?_|(refine .bif (fun zz=>?_) (fun zz=>?_)<;>try simp(disch:=omega)only[zs,w64,zt]at zz))<;>try dsimp only)
  all_goals exact Tq.ret ⟨_,_,_,_,rfl⟩
theorem one_f3 {i x:Nat}{l:List Tr}(h:(opAt b i=2∧opAt b x=3)∨(opAt b i=8∧opAt b x=9))(h1:Many b (i+1) l x)(h2:ManyF b (x+1)):OneF b i:=by
  intro m e;have hi:i<b.length:=by rcases h with h|h<;>exact opAt_in h.1 (by omega)
  have hx:x<b.length:=by rcases h with h|h<;>exact opAt_in h.2 (by omega)
  rw[opAt_lt hi]at h;have h2:∀m e:Int,Gv n_impl_nester_many s_impl_nester_many ((b,IntKind.i64.wrap ((x:Int)+1),m,e,()),()) (fun(r:ManyR)=>∃l j m' e',r=((l,false,()),(b,j,m',e',()),())):=by rw[ws hx (by omega)];exact h2
  refine Gv.of (fun k=>impl_nester_one.F_eq (cl k) k (b,(i:Int),m,e,())) ?_;unfold impl_nester_one.F impl_nester_one.Fm;rw[ws hi (by omega)]
  repeat'((first|(refine .bind (h1 _ _).tq ?_;rintro y ⟨m',e',rfl⟩)|(refine .bind (h2 _ _).tq ?_;rintro y ⟨l',j',m',e',rfl⟩)|refine .ba (nis_ans hb _ _ _ _ (by omega)) ?_|refine .t ?_|refine .u ?_|refine .some lg0 ?_|refine .some lg ?_|refine .some lgI ?_|(refine .bif (fun zz=>?_) (fun zz=>?_)<;>try simp(disch:=omega)only[zs,w64,zt]at zz))<;>try dsimp only)
  all_goals exact Tq.ret ⟨_,_,_,_,rfl⟩
theorem one_f4 {i x z:Nat}{l l2:List Tr}(h:(opAt b i=2∧opAt b x=3)∨(opAt b i=8∧opAt b x=9))(h1:Many b (i+1) l x)(h2:Many b (x+1) l2 z)(he:opAt b z≠4):OneF b i:=by
  intro m e;have hi:i<b.length:=by rcases h with h|h<;>exact opAt_in h.1 (by omega)
  have hx:x<b.length:=by rcases h with h|h<;>exact opAt_in h.2 (by omega)
  rw[opAt_lt hi]at h;have h2:∀m e:Int,Gv n_impl_nester_many s_impl_nester_many ((b,IntKind.i64.wrap ((x:Int)+1),m,e,()),()) (fun(r:ManyR)=>∃m' e',r=((l2,true,()),(b,(z:Int),m',e',()),())):=by rw[ws hx (by omega)];exact h2
  refine Gv.of (fun k=>impl_nester_one.F_eq (cl k) k (b,(i:Int),m,e,())) ?_;unfold impl_nester_one.F impl_nester_one.Fm;rw[ws hi (by omega)]
  repeat'((first|(refine .bind (h1 _ _).tq ?_;rintro y ⟨m',e',rfl⟩)|(refine .bind (h2 _ _).tq ?_;rintro y ⟨m',e',rfl⟩)|refine .ba (nis_ans hb _ _ _ _ (by omega)) ?_|refine .t ?_|refine .u ?_|refine .some lg0 ?_|refine .some lg ?_|refine .some lgI ?_|(refine .bif (fun zz=>?_) (fun zz=>?_)<;>try simp(disch:=omega)only[zs,w64,zt]at zz))<;>try dsimp only)
  all_goals exact Tq.ret ⟨_,_,_,_,rfl⟩
/-! #### lists of nodes-/
theorem many_nil {i:Nat}(h:i=b.length∨opAt b i=3∨opAt b i=4∨opAt b i=9):ManyL b i [] i:=by
  intro d hd acc m e hacc;obtain⟨d,rfl⟩:∃d',d=d'+1:=⟨d-1,by omega⟩
  refine Tq.succ ?_;show Tq _ (fun k q=>impl_nester_many.step0 (cl k) k ..) _
  unfold impl_nester_many.step0
  repeat'((first|refine .ba (nis_ans hb _ _ _ _ (by omega)) ?_|refine .t ?_|refine .u ?_|refine .some lg0 ?_|refine .some lg ?_|refine .some lgI ?_|(refine .bif (fun zz=>?_) (fun zz=>?_)<;>try simp(disch:=omega)only[zs,w64,zt]at zz))<;>try dsimp only)
  all_goals first
    |exact Tq.ret ⟨_,_,by rw[List.append_nil]⟩
    |omega
theorem many_cons {i j x:Nat}{n1 n2 l:List Tr}{Q:Int→Int→Int→Int→Prop}(hi:i<b.length)(hx:i<x)(h:opAt b i≠3∧opAt b i≠4∧opAt b i≠9)(h1:One b i n1 n2 x Q)(hr:ManyL b x l j):ManyL b i (.mk i n1 n2::l) j:=by
  intro d hd acc m e hacc;obtain⟨d,rfl⟩:∃d',d=d'+1:=⟨d-1,by omega⟩
  refine Tq.succ ?_;show Tq _ (fun k q=>impl_nester_many.step0 (cl k) k ..) _
  unfold impl_nester_many.step0
  repeat'((first|(refine Tq.bt (apb (by rw[by132];simp only[List.length_cons,List.length_nil];omega)) ?_)|refine .ba (nis_ans hb _ _ _ _ (by omega)) ?_|(refine .bind (h1 _ _).tq ?_;rintro y ⟨m',e',hq,rfl⟩)|refine .t ?_|refine .u ?_|refine .some lg0 ?_|refine .some lg ?_|refine .some lgI ?_|(refine .bif (fun zz=>?_) (fun zz=>?_)<;>try simp(disch:=omega)only[zs,w64,zt]at zz))<;>try dsimp only)
  refine(hr d (by omega) _ _ _ (by simp;omega)).mono ?_;rintro r ⟨m',e',rfl⟩;exact⟨m',e',by simp⟩
theorem many_fail {i:Nat}(hi:i<b.length)(h:opAt b i≠3∧opAt b i≠4∧opAt b i≠9)(h1:OneF b i):ManyLF b i:=by
  intro d hd acc m e hacc;obtain⟨d,rfl⟩:∃d',d=d'+1:=⟨d-1,by omega⟩
  refine Tq.succ ?_;show Tq _ (fun k q=>impl_nester_many.step0 (cl k) k ..) _
  unfold impl_nester_many.step0
  repeat'((first|refine .ba (nis_ans hb _ _ _ _ (by omega)) ?_|(refine .bind (h1 _ _).tq ?_;rintro y ⟨x',j',m',e',rfl⟩)|refine .t ?_|refine .u ?_|refine .some lg0 ?_|refine .some lg ?_|refine .some lgI ?_|(refine .bif (fun zz=>?_) (fun zz=>?_)<;>try simp(disch:=omega)only[zs,w64,zt]at zz))<;>try dsimp only)
  exact Tq.ret ⟨_,_,_,_,rfl⟩
theorem many_later {i x:Nat}{n1 n2:List Tr}{Q:Int→Int→Int→Int→Prop}(hi:i<b.length)(hx:i<x)(h:opAt b i≠3∧opAt b i≠4∧opAt b i≠9)(h1:One b i n1 n2 x Q)(hr:ManyLF b x):ManyLF b i:=by
  intro d hd acc m e hacc;obtain⟨d,rfl⟩:∃d',d=d'+1:=⟨d-1,by omega⟩
  refine Tq.succ ?_;show Tq _ (fun k q=>impl_nester_many.step0 (cl k) k ..) _
  unfold impl_nester_many.step0
  repeat'((first|(refine Tq.bt (apb (by rw[by132];simp only[List.length_cons,List.length_nil];omega)) ?_)|refine .ba (nis_ans hb _ _ _ _ (by omega)) ?_|(refine .bind (h1 _ _).tq ?_;rintro y ⟨m',e',hq,rfl⟩)|refine .t ?_|refine .u ?_|refine .some lg0 ?_|refine .some lg ?_|refine .some lgI ?_|(refine .bif (fun zz=>?_) (fun zz=>?_)<;>try simp(disch:=omega)only[zs,w64,zt]at zz))<;>try dsimp only)
  exact hr d (by omega) _ _ _ (by simp;omega)
theorem many_seg {t:Fs}{i j:Nat}(h:Seg b t i j):ManyL b i t.trs j:=by
  induction h with
  |nil hi h=>exact many_nil hb h
  |leaf hi h hr ih=>exact many_cons hb hi (Nat.lt_succ_self _) (by omega) (one_leaf hb hi (by omega)) ih
  | one h ht he hr ih1 ih2=>
    have h1:=ht.le;have h2:=opAt_in he (by omega);exact many_cons hb (by omega) (by omega) (by omega) (one_one hb h ih1.many he) ih2
  | two h ht ho he hr ih1 ih2 ih3=>
    have h1:=ht.le;have h3:=ho.le;have h2:=opAt_in he (by omega);exact many_cons hb (by omega) (by omega) (by omega) (one_two hb h ih1.many ih2.many he) ih3
/--What is not well nested is so for both. -/
theorem nest_total:∀(n i:Nat),b.length-i≤n→i≤b.length→(∃t j,Seg b t i j)∨(BlkL b i (-1)∧ManyLF b i):=by
  intro n
  induction n with
  | zero=>
    intro i hn hi;exact .inl ⟨.nil,i,.nil hi (by omega)⟩
  | succ n ih =>
    intro i hn hi;by_cases h0:i=b.length∨opAt b i=3∨opAt b i=4∨opAt b i=9
    . exact .inl ⟨.nil,i,.nil hi h0⟩
    have hi:i<b.length:=by omega
    by_cases h1:opAt b i=2∨opAt b i=5∨opAt b i=8
    . rcases ih (i+1) (by omega) (by omega)with⟨t,x,ht⟩|⟨f1,f2⟩
      . have hx:=ht.le;have A:=blk_seg hb ht;have B:=many_seg hb ht;by_cases h2:(opAt b i=2∧opAt b x=3)∨(opAt b i=8∧opAt b x=9)
        . have hx2:x<b.length:=by rcases h2 with h|h<;>exact opAt_in h.2 (by omega)
          rcases ih (x+1) (by omega) (by omega)with⟨o,z,ho⟩|⟨f1,f2⟩
          . have hz:=ho.le;have A2:=blk_seg hb ho;have B2:=many_seg hb ho;by_cases h3:opAt b z=4
            . have hz2:=opAt_in h3 (by omega);rcases ih (z+1) (by omega) (by omega)with⟨r,j,hr⟩|⟨f1,f2⟩
              . exact .inl ⟨_,_,.two h2 ht ho h3 hr⟩
              . exact .inr ⟨blk_node hb (by omega) (by omega) (end_two hb h2 A.blk A2.blk h3) f1,many_later hb hi (by omega) (by omega) (one_two hb h2 B.many B2.many h3) f2⟩
            . exact .inr ⟨blk_fail hb (by omega) (end_f3 hb h2 A.blk A2.blk (.inr h3)),many_fail hb hi (by omega) (one_f4 hb h2 B.many B2.many h3)⟩
          . exact .inr ⟨blk_fail hb (by omega) (end_f3 hb h2 A.blk f1.blk (.inl (by omega))),many_fail hb hi (by omega) (one_f3 hb h2 B.many f2.many)⟩
        . by_cases h3:opAt b x=4∧opAt b i≠8
          . have hx2:=opAt_in h3.1 (by omega);rcases ih (x+1) (by omega) (by omega)with⟨r,j,hr⟩|⟨f1,f2⟩
            . exact .inl ⟨_,_,.one (by omega) ht h3.1 hr⟩
            . exact .inr ⟨blk_node hb (by omega) (by omega) (end_one hb (by omega) A.blk h3.1) f1,many_later hb hi (by omega) (by omega) (one_one hb (by omega) B.many h3.1) f2⟩
          . exact .inr ⟨blk_fail hb (by omega) (end_f2 hb hi A.blk h2 h3),many_fail hb hi (by omega) (one_f2 hb (by omega) B.many h2 h3)⟩
      . exact .inr ⟨blk_fail hb (by omega) (end_f1 hb hi f1.blk),many_fail hb hi (by omega) (one_f1 hb (by omega) f2.many)⟩
    . rcases ih (i+1) (by omega) (by omega)with⟨t,x,ht⟩|⟨f1,f2⟩
      . exact .inl ⟨_,_,.leaf hi (by omega) ht⟩
      . exact .inr ⟨blk_leaf hb hi (by omega) f1,many_later hb hi (Nat.lt_succ_self _) (by omega) (one_leaf hb hi (by omega)) f2⟩
end
end Go.Proofs.YtjgfofcgmcnblaaGreat.Pf
