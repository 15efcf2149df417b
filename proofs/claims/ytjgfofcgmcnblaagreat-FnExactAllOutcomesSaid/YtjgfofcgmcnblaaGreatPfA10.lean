/- The laws' marks: lists are written over, and hold what was written. No condition but the lists' lengths. -/
import Derived.Test.YtjgfofcgmcnblaaGreatPfC
import Derived.Test.YtjgfofcgmcnblaaGreatPfD
import Derived.Test.YtjgfofcgmcnblaaGreatPfL
import Derived.Test.YtjgfofcgmcnblaaGreatPfT9
set_option maxHeartbeats 2000000
set_option linter.all false
namespace Go.Proofs.YtjgfofcgmcnblaaGreat.Pf
open Go Go.Pv
/-! ### Marks-/
def Mk(l:List Int)(k:Int):Prop:=∀(i:Nat)(h:i<l.length),l[i]=k+i
abbrev R1:=(Int×Unit)×(List Int×Unit)
theorem mark_loop(m:Int)(hm:0≤m)(hm2:m≤1125899906842624):∀(d j:Nat)(l:List Int),l.length-j=d→j≤l.length→l.length≤1048576→(∀(i:Nat)(h:i<l.length),i<j→l[i]=m+i)→
    Tq (d+1) (fun k q=>laws_markInt64S.L0 (cl k) k q (m+j) (j:Int) l) (fun(r:R1)=>∃l',r=((m+l.length,()),l',())∧l'.length=l.length∧Mk l' m):=by
  intro d
  induction d with
  | zero=>
    intro j l hd hj hl H;obtain rfl:j=l.length:=by omega
    refine Tq.succ ?_;show Tq _ (fun k q=>laws_markInt64S.step0 (cl k) k ..) _
    unfold laws_markInt64S.step0;exact Tq.bf (dnlt (Nat.le_refl _)) (Tq.ret ⟨l,rfl,rfl,fun i h=>H i h h⟩)
  | succ d ih=>
    intro j l hd hj hl H;have hj:j<l.length:=by omega
    refine Tq.succ ?_;show Tq _ (fun k q=>laws_markInt64S.step0 (cl k) k ..) _
    unfold laws_markInt64S.step0;refine Tq.bt (dlt hj) (Tq.bt (idx_ok hj) (Tq.some (lg hj) ?_));rw[ws hj (by omega),w64 (by omega) (by omega),Int.toNat_natCast,show m+(j:Int)+1=m+((j+1:Nat):Int) by omega];have:=ih (j+1) (l.set j (m+j)) (by rw[List.length_set];omega) (by rw[List.length_set];omega) (by rw[List.length_set];exact hl) (fun i h hi=>by
      rcases Nat.lt_or_ge i j with h1|h1
      . rw[List.getElem_set_ne (by omega)];exact H i (by rw[List.length_set]at h;exact h) h1
      . obtain rfl:i=j:=by omega
        rw[List.getElem_set_self])
    rw[List.length_set]at this;exact this
theorem mark_gv(l:List Int)(m:Int)(hm:0≤m)(hm2:m≤1125899906842624)(hl:l.length≤1048576):Gv n_laws_markInt64S s_laws_markInt64S (l,m,()) (fun(r:R1)=>∃l',r=((m+l.length,()),l',())∧l'.length=l.length∧Mk l' m):=by
  refine Gv.of (fun k=>laws_markInt64S.F_eq (cl k) k l m) ?_;unfold laws_markInt64S.F laws_markInt64S.Fm;have:=mark_loop m hm hm2 l.length 0 l rfl (Nat.zero_le _) hl (fun i h hi=>by omega);rw[show m+((0:Nat):Int)=m by omega]at this;exact Tq.diag this
theorem held_loop(l:List Int)(m:Int)(hm:0≤m)(hm2:m≤1125899906842624)(hl:l.length≤1048576)(h:Mk l m):∀(d j:Nat),l.length-j=d→j≤l.length→
    Tq (d+1) (fun k q=>laws_heldInt64S.L0 (cl k) k l q (m+j) (j:Int)) (· =((m+l.length,()),())):=by
  intro d
  induction d with
  | zero=>
    intro j hd hj;obtain rfl:j=l.length:=by omega
    refine Tq.succ ?_;show Tq _ (fun k q=>laws_heldInt64S.step0 (cl k) k ..) _
    unfold laws_heldInt64S.step0;exact Tq.bf (dnlt (Nat.le_refl _)) (Tq.ret rfl)
  | succ d ih=>
    intro j hd hj;have hj:j<l.length:=by omega
    refine Tq.succ ?_;show Tq _ (fun k q=>laws_heldInt64S.step0 (cl k) k ..) _
    unfold laws_heldInt64S.step0;refine Tq.bt (dlt hj) (Tq.bt (dle0 j) (Tq.some (lg hj) (Tq.bf (bne_eq_false_iff_eq.2 (h j hj)) ?_)));rw[ws hj (by omega),w64 (by omega) (by omega),show m+(j:Int)+1=m+((j+1:Nat):Int) by omega];exact ih (j+1) (by omega) (by omega)
theorem held_ans(l:List Int)(m:Int)(hm:0≤m)(hm2:m≤1125899906842624)(hl:l.length≤1048576)(h:Mk l m):Ans n_laws_heldInt64S s_laws_heldInt64S (l,m,()) ((m+l.length,()),()):=by
  refine Gv.ans (Gv.of (fun k=>laws_heldInt64S.F_eq (cl k) k l m) ?_);unfold laws_heldInt64S.F laws_heldInt64S.Fm;have:=held_loop l m hm hm2 hl h l.length 0 rfl (Nat.zero_le _);rw[show m+((0:Nat):Int)=m by omega]at this;exact Tq.diag this
/-! #### programs:no mark falls below 0-/
abbrev R3:=(Int×Unit)×(List Tm×Unit)
theorem lset {α:Type}{l:List α}{j:Nat}{a:α}(hj:j<l.length):lget (l.set j a) j=some a:=by
  unfold lget;exact List.getElem?_set_self hj
theorem idx2 {j n:Nat}(h:j<n):(decide ((0:Int)≤(j:Int))&&decide (j<n))=true:=by
  rw[dle0,decide_eq_true h];rfl
theorem markI_loop:∀(d j:Nat)(l:List Ip)(z:Int),l.length-j=d→l.length≤1048576→0≤z→z+2*d≤1125899906842624→
    Tq (d+1) (fun k q=>laws_markInputS.L0 (cl k) k q z (j:Int) l) (fun(r:R3)=>∃l',r=((z+2*d,()),l',())∧l'.length=l.length):=by
  intro d
  induction d with
  | zero=>
    intro j l z hd hl h0 hz;refine Tq.succ ?_;show Tq _ (fun k q=>laws_markInputS.step0 (cl k) k ..) _
    unfold laws_markInputS.step0;exact Tq.bf (dnlt (by omega)) (Tq.ret ⟨l,by rw[show z+2*((0:Nat):Int)=z by omega],rfl⟩)
  | succ d ih=>
    intro j l z hd hl h0 hz;have hj:j<l.length:=by omega
    refine Tq.succ ?_;show Tq _ (fun k q=>laws_markInputS.step0 (cl k) k ..) _
    unfold laws_markInputS.step0;rw[Int.toNat_natCast];refine Tq.bt (dlt hj) (Tq.bt (idx2 hj) (Tq.some (lgn hj) (Tq.bt (idx2 (by rw[List.length_set];exact hj)) (Tq.some (lset hj) ?_))));rw[ws hj (by omega),w64 (x:=z+1) (by omega) (by omega),w64 (by omega) (by omega)];refine(ih (j+1) _ (z+1+1) (by rw[List.length_set,List.length_set];omega) (by rw[List.length_set,List.length_set];exact hl) (by omega) (by omega)).mono ?_;rintro r ⟨l',rfl,h⟩;rw[List.length_set,List.length_set]at h;exact⟨l',by rw[show z+1+1+2*(d:Int)=z+2*((d+1:Nat):Int) by omega],h⟩
theorem markI_gv(l:List Ip)(z:Int)(hl:l.length≤1048576)(h0:0≤z)(hz:z≤562949953421312):Gv n_laws_markInputS s_laws_markInputS (l,z,()) (fun(r:R3)=>∃l',r=((z+2*(l.length:Int),()),l',())∧l'.length=l.length):=by
  refine Gv.of (fun k=>laws_markInputS.F_eq (cl k) k l z) ?_;unfold laws_markInputS.F laws_markInputS.Fm;exact Tq.diag (markI_loop l.length 0 l z rfl hl h0 (by omega))
theorem markT_loop:∀(d j:Nat)(l:List Tm)(z:Int),l.length-j=d→l.length≤1048576→0≤z→z+2*d≤1125899906842624→
    Tq (d+1) (fun k q=>laws_markTermS.L0 (cl k) k q z (j:Int) l) (fun(r:R3)=>∃l',r=((z+2*d,()),l',())∧l'.length=l.length):=by
  intro d
  induction d with
  | zero=>
    intro j l z hd hl h0 hz;refine Tq.succ ?_;show Tq _ (fun k q=>laws_markTermS.step0 (cl k) k ..) _
    unfold laws_markTermS.step0;exact Tq.bf (dnlt (by omega)) (Tq.ret ⟨l,by rw[show z+2*((0:Nat):Int)=z by omega],rfl⟩)
  | succ d ih=>
    intro j l z hd hl h0 hz;have hj:j<l.length:=by omega
    refine Tq.succ ?_;show Tq _ (fun k q=>laws_markTermS.step0 (cl k) k ..) _
    unfold laws_markTermS.step0;rw[Int.toNat_natCast];refine Tq.bt (dlt hj) (Tq.bt (idx2 hj) (Tq.some (lgn hj) (Tq.bt (idx2 (by rw[List.length_set];exact hj)) (Tq.some (lset hj) ?_))));rw[ws hj (by omega),w64 (x:=z+1) (by omega) (by omega),w64 (by omega) (by omega)];refine(ih (j+1) _ (z+1+1) (by rw[List.length_set,List.length_set];omega) (by rw[List.length_set,List.length_set];exact hl) (by omega) (by omega)).mono ?_;rintro r ⟨l',rfl,h⟩;rw[List.length_set,List.length_set]at h;exact⟨l',by rw[show z+1+1+2*(d:Int)=z+2*((d+1:Nat):Int) by omega],h⟩
theorem markT_gv(l:List Tm)(z:Int)(hl:l.length≤1048576)(h0:0≤z)(hz:z≤562949953421312):Gv n_laws_markTermS s_laws_markTermS (l,z,()) (fun(r:R3)=>∃l',r=((z+2*(l.length:Int),()),l',())∧l'.length=l.length):=by
  refine Gv.of (fun k=>laws_markTermS.F_eq (cl k) k l z) ?_;unfold laws_markTermS.F laws_markTermS.Fm;exact Tq.diag (markT_loop l.length 0 l z rfl hl h0 (by omega))
abbrev R4:=(Int×Unit)×(List Sm×Unit)
theorem markS_loop:∀(d j:Nat)(l:List Sm)(z:Int),l.length-j=d→l.length≤1048576→(∀x∈l,x.2.2.1.length≤1048576∧x.2.2.2.1.length≤1048576)→0≤z→z+4194308*d≤562949953421312→
    Tq (d+1) (fun k q=>laws_markStmtS.L0 (cl k) k q z (j:Int) l) (fun(r:R4)=>∃z' l',r=((z',()),l',())∧0≤z'∧z'≤z+4194308*d):=by
  intro d
  induction d with
  | zero=>
    intro j l z hd hl hx h0 hz;refine Tq.succ ?_;show Tq _ (fun k q=>laws_markStmtS.step0 (cl k) k ..) _
    unfold laws_markStmtS.step0;exact Tq.bf (dnlt (by omega)) (Tq.ret ⟨z,l,rfl,h0,by omega⟩)
  | succ d ih=>
    intro j l z hd hl hx h0 hz;have hj:j<l.length:=by omega
    have hq:=hx _ (List.getElem_mem hj);refine Tq.succ ?_;show Tq _ (fun k q=>laws_markStmtS.step0 (cl k) k ..) _
    unfold laws_markStmtS.step0;rw[Int.toNat_natCast];have hj1:∀a:Sm,j<(l.set j a).length:=fun a=>by rw[List.length_set];exact hj
    have hj2:∀a b:Sm,j<((l.set j a).set j b).length:=fun a b=>by rw[List.length_set,List.length_set];exact hj
    have hj3:∀a b c:Sm,j<(((l.set j a).set j b).set j c).length:=fun a b c=>by rw[List.length_set,List.length_set,List.length_set];exact hj
    refine Tq.bt (dlt hj) (Tq.bt (idx2 hj) (Tq.some (lgn hj) (Tq.bt (idx2 (hj1 _)) (Tq.some (lset hj) (Tq.bt (idx2 (hj2 _ _)) (Tq.some (lset (hj1 _)) ?_))))));dsimp only;rw[w64 (x:=z+1) (by omega) (by omega),w64 (x:=z+1+1) (by omega) (by omega)];refine Tq.bind (markT_gv l[j].2.2.1 (z+1+1) hq.1 (by omega) (by omega)).tq ?_;rintro y ⟨l1,rfl,e1⟩;refine Tq.some (lset (hj1 _)) (Tq.bt (idx2 (hj3 _ _ _)) (Tq.some (lset (hj2 _ _)) ?_));dsimp only;refine Tq.bind (markT_gv l[j].2.2.2.1 (z+1+1+2*(l[j].2.2.1.length:Int)) hq.2 (by omega) (by omega)).tq ?_;rintro y ⟨l2,rfl,e2⟩;refine Tq.some (lset (hj2 _ _)) ?_;dsimp only;rw[ws hj (by omega)];refine(ih (j+1) _ _ (by simp only[List.length_set];omega) (by simp only[List.length_set];exact hl) (fun x hx2=>?_) (by omega) (by omega)).mono ?_
    . rcases List.mem_or_eq_of_mem_set hx2 with h|rfl
      . rcases List.mem_or_eq_of_mem_set h with h|rfl
        . rcases List.mem_or_eq_of_mem_set h with h|rfl
          . rcases List.mem_or_eq_of_mem_set h with h|rfl
            . exact hx x h
            . exact hq
          . exact hq
        . exact⟨by show l1.length≤_;omega,hq.2⟩
      . exact⟨by show l1.length≤_;omega,by show l2.length≤_;omega⟩
    . rintro r ⟨z',l',rfl,a1,a2⟩;exact⟨z',l',rfl,a1,by omega⟩
theorem markP_gv(p:Pg)(h:Small p):Gv n_laws_markProg s_laws_markProg (p,1,()) (fun(r:(Int×Unit)×(Pg×Unit))=>∃z p',r=((z,()),p',())∧0≤z∧z≤562949953421312):=by
  obtain⟨h1,h2,h3,h4,h5⟩:=h;refine Gv.of (fun k=>laws_markProg.F_eq (cl k) k p 1) ?_;unfold laws_markProg.F laws_markProg.Fm;refine Tq.bind (markI_gv p.2.1 1 h1 (by omega) (by omega)).tq ?_;rintro y ⟨l1,rfl,_⟩;refine Tq.bind (markI_gv p.2.2.1 _ h2 (by dsimp only;omega) (by dsimp only;omega)).tq ?_;rintro y ⟨l2,rfl,_⟩;refine Tq.bind (mark_gv p.2.2.2.2.1 _ (by dsimp only;omega) (by dsimp only;omega) h3).tq ?_;rintro y ⟨l3,rfl,_,_⟩;have hS:∀z:Int,0≤z→z≤100000000→Gv n_laws_markStmtS s_laws_markStmtS (p.2.2.2.2.2.1,z,()) (fun(r:R4)=>∃z' l',r=((z',()),l',())∧0≤z'∧z'≤z+4194308*p.2.2.2.2.2.1.length):=by
    intro z hz hz2;refine Gv.of (fun k=>laws_markStmtS.F_eq (cl k) k p.2.2.2.2.2.1 z) ?_;unfold laws_markStmtS.F laws_markStmtS.Fm;exact Tq.diag (markS_loop _ 0 p.2.2.2.2.2.1 z rfl h4 h5 hz (by omega))
  refine Tq.bind (hS _ (by dsimp only;omega) (by dsimp only;omega)).tq ?_;rintro y ⟨z,l4,rfl,a1,a2⟩;exact Tq.ret ⟨z,_,rfl,a1,by dsimp only at a2;omega⟩
end Go.Proofs.YtjgfofcgmcnblaaGreat.Pf
