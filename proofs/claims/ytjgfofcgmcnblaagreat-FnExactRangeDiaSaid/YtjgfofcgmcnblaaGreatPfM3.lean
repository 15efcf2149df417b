/- Printed texts of functions, and what they answer: part 3. No condition but those of each. -/
import Derived.Test.YtjgfofcgmcnblaaGreatPfM2
import Derived.KernelRfl
set_option linter.all false
set_option maxHeartbeats 2000000
namespace Go.Proofs.YtjgfofcgmcnblaaGreat.Pf
open Go Go.Pv
def inA(p:Pg)(m:Nat):List Int:=atF (mx p) (m:Int)
def ins(p:Pg)(n:Nat):List (List Int):=(List.range n).map (inA p)
def cN(p:Pg):Nat:=(cntF (mx p)).toNat
section
variable {p:Pg}{t:Fs}(ht:Ok p t)
include ht
theorem inA_wi(m:Nat):Wi p (inA p m):=at_wi ht.hd (Int.natCast_nonneg m)
theorem cN_bd:cN p≤1024∧((cN p:Nat):Int)=cntF (mx p):=by
  have:=cnt_bd ht.hd;unfold cN;omega
theorem wi_in:∀m,Within ((inA p m).take p.2.1.length) p.2.1∧Within ((inA p m).drop p.2.1.length) p.2.2.1:=inA_wi ht
theorem inputOf_ans {n:Nat}(hn:n≤1024):Ans n_impl_inputOf s_impl_inputOf (p,(n:Int),()) (((inA p n).take p.2.1.length,(inA p n).drop p.2.1.length,()),()):=by
  have hp:=ht.hd;have hb:=hp.b;have e0:mx p=(p.2.1++p.2.2.1).map (·.1):=by unfold mx;rw[List.map_append]
  have hf:=mx_few hp;have hn6:(p.2.1++p.2.2.1).length≤6:=by rw[List.length_append];omega
  have hge:p.2.1.length≤(p.2.1++p.2.2.1).length:=by rw[List.length_append];omega
  have hA:=allIn_ans hp;refine Gv.ans (Gv.of (fun k=>impl_inputOf.F_eq (cl k) k p n) ?_);unfold impl_inputOf.F impl_inputOf.Fm inA;rw[e0]at hf⊢;generalize p.2.1++p.2.2.1=l at*;refine Tq.ba hA ?_;have key:∀(d j:Nat)(n:Int)(acc:List Int),l.length-j=d→0≤n→n≤1024→acc.length=j→j≤l.length→Tq (d+1) (fun k q=>impl_inputOf.L0 (cl k) k p ((l,()),()) q n (j:Int) acc) (· =(((acc++atF ((l.drop j).map (·.1)) n).take p.2.1.length,(acc++atF ((l.drop j).map (·.1)) n).drop p.2.1.length,()),())):=by
    intro d
    induction d with
    | zero=>
      intro j n acc hd h0 h1 h2 h3;refine Tq.succ ?_;show Tq _ (fun k q=>impl_inputOf.step0 (cl k) k ..) _
      unfold impl_inputOf.step0;have e:l.drop j=[]:=List.drop_of_length_le (by omega);rw[e];simp only[List.map_nil,atF,List.append_nil];refine Tq.bf (dnlt (by omega)) ?_;rw[Int.toNat_natCast];have hc:p.2.1.length≤acc.length:=by omega
      refine Tq.bt (dle0 _) (Tq.bt (by simp only[zs];omega) (Tq.bt (apb (by rw[by2];simp only[List.length_take,List.length_drop];omega)) (Tq.bt (dle0 _) (Tq.bt (by simp only[zs];omega) (Tq.bt (apb (by rw[by2];simp only[List.length_take,List.length_drop];omega)) (Tq.ret ?_))))));rw[List.take_of_length_le (show(acc.drop p.2.1.length).length≤acc.length-p.2.1.length by rw[List.length_drop];exact Nat.le_refl _)];rfl
    | succ d ih=>
      intro j n acc hd h0 h1 h2 h3;have hj:j<l.length:=by omega
      have hx:=hf _ (List.mem_map.2 ⟨_,List.getElem_mem hj,rfl⟩);have q0:=Int.tdiv_nonneg h0 (show 0≤l[j].1+1 by omega);have q1:=Int.tdiv_le_self (l[j].1+1) h0;refine Tq.succ ?_;show Tq _ (fun k q=>impl_inputOf.step0 (cl k) k ..) _
      unfold impl_inputOf.step0;refine Tq.bt (dlt hj) (Tq.bt (idx_ok hj) (Tq.some (lg hj) ?_));rw[w64 (x:=l[j].1+1) (by omega) (by omega)];refine Tq.bf (decide_eq_false (by omega)) (Tq.bt (apb (by rw[by2];simp only[List.length_cons,List.length_nil];omega)) (Tq.bf (decide_eq_false (by omega)) ?_));rw[ws hj (by omega),w64 (by omega) (by omega),List.drop_eq_getElem_cons hj];have:=ih (j+1) _ (acc++[n.tmod (l[j].1+1)]) (by omega) q0 (by omega) (by simp;omega) (by omega);rw[List.append_assoc acc,List.singleton_append]at this;exact this
  exact Tq.diag (key _ 0 n [] rfl (by omega) (by omega) rfl (Nat.zero_le _))
end
end Go.Proofs.YtjgfofcgmcnblaaGreat.Pf
namespace Go.Proofs.YtjgfofcgmcnblaaGreat.Pf
open Go Go.Pv IntKind
end Go.Proofs.YtjgfofcgmcnblaaGreat.Pf
namespace Go.Proofs.YtjgfofcgmcnblaaGreat.Pf
open Go Go.Pv
theorem Tq.fuel {α:Type}{d:Nat}{P:α→Prop}{F G:Nat→Nat→Nat→Option α}(e:∀k q n,F k q (n+1)=G k q n){m:Nat→Nat}{N:Nat}(hm:∀k,N≤k→1≤m k)(h:Tq d (fun k q=>G k q (m k-1)) P):Tq d (fun k q=>F k q (m k)) P:=
  Tq.evEq ⟨N,fun k hk q _=>by
    have:=hm k hk;obtain⟨x,hx⟩:∃x,m k=x+1:=⟨m k-1,by omega⟩
    rw[hx];exact e k q x⟩ h
section
variable {p:Pg}{t:Fs}(ht:Ok p t)
include ht
end
section
variable {p:Pg}(hsm:Small p){l s:List Int}{free:List Bool}(hl:l.length≤1048576)(hs:s.length≤1048576)(hf:free.length≤1048576)
include hsm hl hs
end
end Go.Proofs.YtjgfofcgmcnblaaGreat.Pf
namespace Go.Proofs.YtjgfofcgmcnblaaGreat.Pf
open Go Go.Pv
theorem emod_mul {n b c:Int}(h0:0≤n)(hb:0<b)(hc:0<c):n % (b*c)=n % b+b*(n/b % c):=by
  obtain⟨N,rfl⟩:∃N:Nat,n=N:=⟨n.toNat,by omega⟩
  obtain⟨B,rfl⟩:∃B:Nat,b=B:=⟨b.toNat,by omega⟩
  obtain⟨C,rfl⟩:∃C:Nat,c=C:=⟨c.toNat,by omega⟩
  have:=Nat.mod_mul (x:=N) (a:=B) (b:=C)
  exact_mod_cast this
theorem uniq {b x y x' y':Int}(h0:0≤x)(h1:x<b)(h0':0≤x')(h1':x'<b):x+b*y=x'+b*y'↔x=x'∧y=y':=by
  constructor
  . intro h;have e1:(x+b*y)% b=x:=by rw[Int.add_mul_emod_self_left];exact Int.emod_eq_of_lt h0 h1
    have e2:(x'+b*y')% b=x':=by rw[Int.add_mul_emod_self_left];exact Int.emod_eq_of_lt h0' h1'
    rw[h,e2]at e1;subst e1;have e3:b*y=b*y':=by omega
    exact⟨rfl,Int.eq_of_mul_eq_mul_left (by omega) e3⟩
  . rintro⟨rfl,rfl⟩;rfl
def numF:List Int→List Int→Int
  |m::A,x::l=>x+(m+1)*numF A l
  | _,_=>0
def Under(A l:List Int):Prop:=l.length=A.length∧∀(i:Nat)(h:i<l.length)(h2:i<A.length),0≤l[i]∧l[i]≤A[i]
theorem Under.tail {m x:Int}{A l:List Int}(h:Under (m::A) (x::l)):Under A l:=⟨by have:=h.1;simpa using this,fun i i1 i2=>h.2 (i+1) (by simpa using i1) (by simpa using i2)⟩
theorem num_bd:∀{A l:List Int},Few A→Under A l→0≤numF A l∧numF A l<cntF A
  |[],[],_,_=>by show(0:Int)≤0∧(0:Int)<1;omega
  |[],_::_,_,h=>by have:=h.1;simp at this
  | _::_,[],_,h=>by have:=h.1;simp at this
  | m::A,x::l,hA,h=>by
    have h1:=num_bd (A:=A) (l:=l) (fun y hy=>hA y (List.mem_cons_of_mem _ hy)) h.tail;have h2:=h.2 0 (by simp) (by simp);have h2:0≤x∧x≤m:=h2;have h3:=Int.mul_nonneg (show 0≤m+1 by omega) h1.1;have h4:=Int.mul_le_mul_of_nonneg_left (show numF A l+1≤cntF A by omega) (show 0≤m+1 by omega);rw[Int.mul_add]at h4;unfold numF cntF;omega
theorem at_num:∀{A l:List Int}{n:Int},Few A→Under A l→0≤n→(atF A n=l↔n % cntF A=numF A l)
  |[],[],n,_,_,_=>⟨fun _=>Int.emod_one n,fun _=>rfl⟩
  |[],_::_,_,_,h,_=>by have:=h.1;simp at this
  | _::_,[],_,_,h,_=>by have:=h.1;simp at this
  | m::A,x::l,n,hA,h,h0=>by
    have hA':Few A:=fun y hy=>hA y (List.mem_cons_of_mem _ hy)
    have hm:=hA m List.mem_cons_self;have h2:=h.2 0 (by simp) (by simp);have h2:0≤x∧x≤m:=h2;have hq:n.tdiv (m+1)=n/(m+1):=Int.tdiv_eq_ediv_of_nonneg h0;have hr:n.tmod (m+1)=n % (m+1):=Int.tmod_eq_emod_of_nonneg h0;have ih:=at_num (n:=n/(m+1)) hA' h.tail (Int.ediv_nonneg h0 (by omega));have hc:=cnt_pos hA';have e:=emod_mul h0 (show 0<m+1 by omega) (show 0<cntF A by omega);show(n.tmod (m+1)::atF A (n.tdiv (m+1))=x::l)↔n % ((m+1)*cntF A)=x+(m+1)*numF A l
    rw[e,hq,hr,uniq (Int.emod_nonneg _ (by omega)) (Int.emod_lt_of_pos _ (by omega)) h2.1 (by omega),List.cons.injEq,ih]
end Go.Proofs.YtjgfofcgmcnblaaGreat.Pf
namespace Go.Proofs.YtjgfofcgmcnblaaGreat.Pf
open Go Go.Pv
def bN(b:Bool):Nat:=bif b then 1 else 0
theorem bN_le(b:Bool):bN b≤1:=by cases b<;>decide
def vF(l:List Bool):Nat:=l.foldl (fun a b=>2*a+bN b) 0
theorem vF_snoc(l:List Bool)(b:Bool):vF (l++[b])=2*vF l+bN b:=by unfold vF;rw[List.foldl_append];rfl
theorem snoc_ind {α:Type}{P:List α→Prop}(h0:P [])(h:∀l a,P l→P (l++[a]))(l:List α):P l:=by
  have:∀r:List α,P r.reverse:=fun r=>by
    induction r with
    |nil=>exact h0
    |cons a r ih=>rw[List.reverse_cons];exact h _ _ ih
  have h1:=this l.reverse;rwa[List.reverse_reverse]at h1
theorem vF_lt(l:List Bool):vF l<2^l.length:=by
  refine snoc_ind (P:=fun l=>vF l<2^l.length) (by decide) (fun l b ih=>?_) l;have:=bN_le b;have ih:vF l<2^l.length:=ih;show vF (l++[b])<2^(l++[b]).length
  rw[vF_snoc,List.length_append,List.length_singleton,Nat.pow_succ];omega
theorem bitsN_len(m n:Nat):(bitsN m n).length=m:=by unfold bitsN;rw[List.length_map,List.length_range]
theorem bitsN_snoc(m n:Nat):bitsN (m+1) n=bitsN m (n/2)++[n.testBit 0]:=by
  unfold bitsN;rw[List.range_succ,List.map_append,List.map_singleton]
  congr 1
  . refine List.map_congr_left fun i hi=>?_
    have hi:=List.mem_range.1 hi;unfold bitN;rw[show m+1-1-i=(m-1-i)+1 by omega,Nat.testBit_succ]
  . unfold bitN;rw[show m+1-1-m=0 by omega]
theorem bN_test(n:Nat):bN (n.testBit 0)=n % 2:=by
  rw[Nat.testBit_zero];rcases Nat.mod_two_eq_zero_or_one n with h|h<;>rw[h]<;>rfl
theorem vF_bitsN:∀(m n:Nat),n<2^m→vF (bitsN m n)=n
  | 0,n,h=>by
    have:n<1:=h;have e:n=0:=by omega
    subst e;rfl
  | m+1,n,h=>by
    rw[Nat.pow_succ]at h;rw[bitsN_snoc,vF_snoc,vF_bitsN m (n/2) (by omega),bN_test];omega
theorem bitsN_vF(l:List Bool):bitsN l.length (vF l)=l:=by
  refine snoc_ind (P:=fun l=>bitsN l.length (vF l)=l) rfl (fun l b ih=>?_) l;have:=bN_le b;have ih:bitsN l.length (vF l)=l:=ih;show bitsN (l++[b]).length (vF (l++[b]))=l++[b]
  rw[vF_snoc,List.length_append,List.length_singleton,bitsN_snoc,show(2*vF l+bN b)/2=vF l by omega,ih]
  congr 2
  rw[Nat.testBit_zero];cases b
  . rw[show 2*vF l+bN false=2*vF l from rfl,show 2*vF l % 2=0 by omega];rfl
  . rw[show 2*vF l+bN true=2*vF l+1 from rfl,show(2*vF l+1)% 2=1 by omega];rfl
def wd(m:Int):Nat:=(bits m).toNat
def wdS:List Int→Nat
  |[]=>0
  |m::l=>wd m+wdS l
def enc:List Int→List Int→List Bool
  |m::ms,x::xs=>bitsN (wd m) x.toNat++enc ms xs
  | _,_=>[]
def dec:List Int→List Bool→List Int
  |[],_=>[]
  |m::ms,l=>(vF (l.take (wd m)):Int)::dec ms (l.drop (wd m))
theorem under_lt {m x:Int}(hm:0≤m∧m≤255)(hx:0≤x∧x≤m):x.toNat<2^wd m:=by
  have h:=bits_pow 63 m hm.1 (by omega);have h2:(2:Int)^(bitsF 63 m).toNat=((2^wd m:Nat):Int):=by unfold wd bits;simp
  omega
theorem enc_len:∀{ms xs:List Int},xs.length=ms.length→(enc ms xs).length=wdS ms
  |[],[],_=>rfl
  |[],_::_,h=>by simp at h
  | _::_,[],h=>by simp at h
  | m::ms,x::xs,h=>by
    have ih:=enc_len (ms:=ms) (xs:=xs) (by simpa using h);unfold enc wdS;rw[List.length_append,bitsN_len,ih]
theorem dec_enc:∀{ms xs:List Int},Few ms→Under ms xs→dec ms (enc ms xs)=xs
  |[],[],_,_=>rfl
  |[],_::_,_,h=>by have:=h.1;simp at this
  | _::_,[],_,h=>by have:=h.1;simp at this
  | m::ms,x::xs,hf,h=>by
    have ih:=dec_enc (ms:=ms) (xs:=xs) (fun y hy=>hf y (List.mem_cons_of_mem _ hy)) h.tail;have hx:0≤x∧x≤m:=h.2 0 (by simp) (by simp);have hl:=under_lt (hf m List.mem_cons_self) hx;have e:=bitsN_len (wd m) x.toNat;unfold enc dec;rw[List.take_left' e,List.drop_left' e,ih,vF_bitsN _ _ hl]
    congr 1
    omega
theorem enc_dec:∀{ms:List Int}{l:List Bool},l.length=wdS ms→enc ms (dec ms l)=l
  | [],l,h=>by
    have:l=[]:=List.eq_nil_of_length_eq_zero h;subst this;rfl
  | m::ms,l,h=>by
    have h:l.length=wd m+wdS ms:=h;have ih:=enc_dec (ms:=ms) (l:=l.drop (wd m)) (by rw[List.length_drop];omega);unfold dec enc;rw[ih,Int.toNat_natCast];have e:=bitsN_vF (l.take (wd m));rw[List.length_take,Nat.min_eq_left (by omega)]at e;rw[e,List.take_append_drop]
section
variable {ms:List Int}(hf:Few ms)(yes:List Int→Bool)
def dN(ms:List Int)(n:Nat):List Int:=dec ms (bitsN (wdS ms) n)
noncomputable def rT(ms:List Int)(yes:List Int→Bool):List Bool:=(List.range (2^wdS ms)).map fun n=>bo (Under ms (dN ms n))&&yes (dN ms n)
noncomputable def iT(ms:List Int)(yes:List Int→Bool)(j:Nat):List Bool:=(List.range (2^wdS ms)).map fun n=>bo (Under ms (dN ms n)∧numF ms (dN ms n)<(j:Int))&&yes (dN ms n)
theorem iT_len(ms:List Int)(yes:List Int→Bool)(j:Nat):(iT ms yes j).length=2^wdS ms:=by unfold iT;rw[List.length_map,List.length_range]
theorem rT_len(ms:List Int)(yes:List Int→Bool):(rT ms yes).length=2^wdS ms:=by unfold rT;rw[List.length_map,List.length_range]
def pl(ms:List Int)(j:Nat):Nat:=vF (enc ms (atF ms (j:Int)))
theorem pl_lt(ms:List Int)(j:Nat):pl ms j<2^wdS ms:=by
  have:=vF_lt (enc ms (atF ms (j:Int)));rwa[enc_len (at_len ms _)]at this
include hf
theorem at_under(j:Nat):Under ms (atF ms (j:Int)):=⟨at_len _ _,fun i h1 h2=>at_get hf (Int.natCast_nonneg j) i h1 h2⟩
theorem dN_pl(j:Nat):dN ms (pl ms j)=atF ms (j:Int):=by
  unfold dN pl;have e:=enc_len (at_len ms (j:Int));have h:=bitsN_vF (enc ms (atF ms (j:Int)));rw[e]at h;rw[h,dec_enc hf (at_under hf j)]
theorem num_at {j:Nat}(hj:(j:Int)<cntF ms):numF ms (atF ms (j:Int))=(j:Int):=by
  have h:=(at_num hf (at_under hf j) (Int.natCast_nonneg j)).1 rfl;rw[←h];exact Int.emod_eq_of_lt (Int.natCast_nonneg j) hj
theorem iT_zero:iT ms yes 0=List.replicate (2^wdS ms) false:=by
  refine List.eq_replicate_iff.2 ⟨iT_len _ _ _,fun b hb=>?_⟩;obtain⟨n,_,rfl⟩:=List.mem_map.1 hb;rw[bo_f,Bool.false_and];rintro⟨h1,h2⟩;have:=num_bd hf h1;omega
theorem iT_last:iT ms yes (cntF ms).toNat=rT ms yes:=by
  unfold iT rT;refine List.map_congr_left fun n _=>?_
  congr 1
  refine bo_congr ⟨fun h=>h.1,fun h=>⟨h,?_⟩⟩;have:=num_bd hf h;omega
theorem iT_step {j:Nat}(hj:(j:Int)<cntF ms):(iT ms yes j).set (pl ms j) (yes (atF ms (j:Int)))=iT ms yes (j+1):=by
  apply List.ext_getElem?;intro n;rw[List.getElem?_set];by_cases e:pl ms j=n
  . subst e;rw[if_pos rfl,if_pos (by rw[iT_len];exact pl_lt ms j)];unfold iT;rw[List.getElem?_map,List.getElem?_range (pl_lt ms j),Option.map_some,dN_pl hf,bo_t ⟨at_under hf j,by rw[num_at hf hj];omega⟩,Bool.true_and]
  . rw [if_neg e];unfold iT;rw[List.getElem?_map,List.getElem?_map];by_cases hn:n<2^wdS ms
    . rw[List.getElem?_range hn,Option.map_some,Option.map_some]
      congr 2
      refine bo_congr ⟨fun h=>⟨h.1,by omega⟩,fun h=>⟨h.1,?_⟩⟩;rcases Int.lt_or_le (numF ms (dN ms n)) (j:Int)with h1|h1
      . exact h1
      . have h2:numF ms (dN ms n)=(j:Int):=by omega
        have h3:=(at_num hf h.1 (Int.natCast_nonneg j)).2 (by rw[h2];exact Int.emod_eq_of_lt (Int.natCast_nonneg j) hj);refine absurd ?_ e;have h4:enc ms (dN ms n)=bitsN (wdS ms) n:=enc_dec (bitsN_len _ _);unfold pl;rw[h3,h4,vF_bitsN _ _ hn]
    . rw[List.getElem?_eq_none (by rw[List.length_range];omega)];rfl
end
end Go.Proofs.YtjgfofcgmcnblaaGreat.Pf
namespace Go.Proofs.YtjgfofcgmcnblaaGreat.Pf
open Go Go.Pv IntKind
abbrev YM_0:Type:=(Int×((List (Int×(Int×Unit)))×((List (Int×(Int×Unit)))×(Int×((List Int)×((List (Int×(Int×((List (Int×(Int×Unit)))×((List (Int×(Int×Unit)))×Unit)))))×Unit))))))
abbrev YM_1:Type:=(((Int×Int×List (Int×Int×Int×Unit)×Unit)×Unit)×Unit)
abbrev YM_2:Type:=((((List (Int×(Int×Unit)))×Unit)×Unit))
abbrev YM_3:Type:=(((List (Int×(Int×Unit)))×Unit)×Unit)
abbrev YM_4:Type:=((((List Int)×Unit)×Unit))
abbrev YM_5:Type:=(((List Int)×Unit)×Unit)
abbrev YM_6:Type:=(Int×(Int×(Int×Unit)))
abbrev YM_7:Type:=((Int)×((List Bool)))
abbrev YM_8:Type:=((Int×Unit)×Unit)
abbrev YM_9:Type:=((Int)×(Int))
abbrev YM_10:Type:=(Bool×Unit)
abbrev YM_11:Type:=(Int×Unit)
namespace impl_manyBits
abbrev R:=((Int×Unit)×Unit)
def S0(y0:YM_2)(v0_0:Int)(v0_2:Int):St:=⟨mkS 20 [(3,.v tI v0_0),(7,.ref [500007]),(8,.v tI ((↑(List.length y0.1.1):Int))),(9,.v tI v0_2)],[([500007],.list 59 tTm (y0.1.1))]⟩
def step0(call:Cl)(k:Nat)(y0:YM_3)(r0:(Int)→(Int)→Option R)(v0_0:Int)(v0_2:Int):Option R:=bif decide (v0_2<(↑(List.length y0.1.1):Int))then bif decide (0≤v0_2)&&decide (v0_2.toNat<List.length y0.1.1)then(lget y0.1.1 v0_2.toNat).bind fun(y1:Int×Int×Unit)=>(call 179 s_impl_bitsOf (y1.1,())).bind fun(y2:YM_11×Unit)=>r0 (i64.wrap (v0_0+y2.1.1)) (i64.wrap (v0_2+1))else none else some ((v0_0,()),())
def L0(call:Cl)(k:Nat)(y0:YM_3):Nat→(Int)→(Int)→Option R|0,_,_=>none|n+1,v0_0,v0_2=>step0 call k y0 (L0 call k y0 n) v0_0 v0_2
def Fm(call:Cl)(k:Nat)(l0:YM_2→(Int)→(Int)→Option R)(a0:YM_0):Option R:=(call 178 s_impl_allInputs (a0,())).bind fun(y0:((List (Int×Int×Unit)×Unit)×Unit))=>l0 y0 0 0
def F(call:Cl)(k:Nat)(a0:YM_0):Option R:=Fm call k (fun y0_ v0_0_ v0_2_=>L0 call k y0_ k v0_0_ v0_2_) a0
theorem L0_eq(call:Cl)(k:Nat)(J:Nat→St→Option R)(a0:YM_0)(y0:YM_3):∀(n:Nat)(x:YM_9),siteI E call n_impl_manyBits k s_impl_manyBits (a0,()) J 0 n (S0 y0 x.1 x.2)=L0 call k y0 n x.1 x.2:=by
  refine loop_eq (s:=s_impl_manyBits) (fun x=>S0 y0 x.1 x.2) (fun n x=>L0 call k y0 n x.1 x.2) (fun r x=>step0 call k y0 (fun v0_0 v0_2=>r (v0_0,v0_2)) x.1 x.2) (fun _=>rfl) (fun _ _=>rfl) fun J0 x=>?_
  kernel_rfl
theorem F_eq(call:Cl)(k:Nat)(a0:YM_0):bodyK E call n_impl_manyBits k s_impl_manyBits (a0,())=F call k a0:=by
  exact Eq.trans (b:=Fm call k (fun y0 v0_0_ v0_2_=>siteI E call n_impl_manyBits k s_impl_manyBits (a0,()) (fun _ _=>none) 0 k (S0 y0 v0_0_ v0_2_)) a0) (by kernel_rfl) (congrArg (fun l=>Fm call k l a0) (funext fun y0=>funext fun v0_0_=>funext fun v0_2_=>L0_eq call k (fun _ _=>none) a0 y0 k (v0_0_,v0_2_)))
end impl_manyBits
namespace impl_bitsAt
abbrev R:=(((List Bool)×Unit)×Unit)
def S1(a1:(List Int))(a2:(List Int))(y0:YM_2)(v0_1:Int)(v1_1:Int)(v1_6:(List Bool)):St:=⟨mkS 47 [(7,.ref [500007]),(8,.ref [500008]),(9,.v tI (v0_1)),(11,.v tI v1_1),(19,.ref [500019]),(20,.v tI ((↑(List.length y0.1.1):Int))),(21,.v tI (v0_1))],[([500019],.list 59 tTm (y0.1.1)),([500008],.list 2 tI ([]++a1++a2)),([500007],.list 4 .bool v1_6)]⟩
def S0(a1:(List Int))(a2:(List Int))(y0:YM_2)(v0_1:Int)(v0_4:(List Bool)):St:=⟨mkS 47 [(7,.ref [500007]),(8,.ref [500008]),(19,.ref [500019]),(20,.v tI ((↑(List.length y0.1.1):Int))),(21,.v tI v0_1)],[([500019],.list 59 tTm (y0.1.1)),([500008],.list 2 tI ([]++a1++a2)),([500007],.list 4 .bool v0_4)]⟩
def step1(call:Cl)(k:Nat)(a1:(List Int))(a2:(List Int))(v0_1:Int)(r0:(Int)→((List Bool))→Option R)(r1:(Int)→((List Bool))→Option R)(v1_1:Int)(v1_6:(List Bool)):Option R:=bif decide (v1_1≥0)then bif decide (0≤v0_1)&&decide (v0_1.toNat<([]++a1++a2).length)then(lget ([]++a1++a2) v0_1.toNat).bind fun(y3:Int)=>bif decide (v1_1<0)then none else bif decide ((v1_6.length+[bitsI .and .i64 (shrI .i64 y3 v1_1) 1==1].length)*ti4.bytes≤140737488355328)then r1 (i64.wrap (v1_1-1)) (v1_6++[bitsI .and .i64 (shrI .i64 y3 v1_1) 1==1])else none else none else r0 (i64.wrap (v0_1+1)) v1_6
def L1(call:Cl)(k:Nat)(a1:(List Int))(a2:(List Int))(v0_1:Int)(r0:(Int)→((List Bool))→Option R):Nat→(Int)→((List Bool))→Option R|0,_,_=>none|n+1,v1_1,v1_6=>step1 call k a1 a2 v0_1 r0 (L1 call k a1 a2 v0_1 r0 n) v1_1 v1_6
def step0(call:Cl)(k:Nat)(y0:YM_2)(a1:(List Int))(a2:(List Int))(l1:((List Int))→((List Int))→(Int)→(Int)→((List Bool))→Option R)(r0:(Int)→((List Bool))→Option R)(v0_1:Int)(v0_4:(List Bool)):Option R:=bif decide (v0_1<(↑(List.length y0.1.1):Int))then bif decide (0≤v0_1)&&decide (v0_1.toNat<List.length y0.1.1)then(lget y0.1.1 v0_1.toNat).bind fun(y1:Int×Int×Unit)=>(call 179 s_impl_bitsOf (y1.1,())).bind fun(y2:YM_11×Unit)=>l1 a1 a2 v0_1 (i64.wrap (y2.1.1-1)) v0_4 else none else some ((v0_4,()),())
def L0(call:Cl)(k:Nat)(y0:YM_2)(a1:(List Int))(a2:(List Int)):Nat→(Int)→((List Bool))→Option R|0,_,_=>none|n+1,v0_1,v0_4=>step0 call k y0 a1 a2 (fun a1_ a2_ v0_1_ v1_1_ v1_6_=>L1 call k a1_ a2_ v0_1_ (L0 call k y0 a1 a2 n) k v1_1_ v1_6_) (L0 call k y0 a1 a2 n) v0_1 v0_4
def Fm(call:Cl)(k:Nat)(l0:YM_2→((List Int))→((List Int))→(Int)→((List Bool))→Option R)(a0:YM_0)(a1:(List Int))(a2:(List Int)):Option R:=bif decide ((0+a1.length)*ti2.bytes≤140737488355328)then bif decide ((([]++a1).length+a2.length)*ti2.bytes≤140737488355328)then(call 178 s_impl_allInputs (a0,())).bind fun(y0:((List (Int×Int×Unit)×Unit)×Unit))=>l0 y0 a1 a2 0 []else none else none
def F(call:Cl)(k:Nat)(a0:YM_0)(a1:(List Int))(a2:(List Int)):Option R:=Fm call k (fun y0_ a1_ a2_ v0_1_ v0_4_=>L0 call k y0_ a1_ a2_ k v0_1_ v0_4_) a0 a1 a2
theorem L1_eq(call:Cl)(k:Nat)(J:Nat→St→Option R)(a0:YM_0)(a1:(List Int))(a2:(List Int))(y0:YM_3)(v0_1:Int):∀(n:Nat)(x:YM_7),siteI E call n_impl_bitsAt k s_impl_bitsAt (a0,a1,a2,()) J 1 n (S1 a1 a2 y0 v0_1 x.1 x.2)=L1 call k a1 a2 v0_1 (fun v0_1_ v0_4_=>J 0 (S0 a1 a2 y0 v0_1_ v0_4_)) n x.1 x.2:=by
  refine loop_eq (s:=s_impl_bitsAt) (fun x=>S1 a1 a2 y0 v0_1 x.1 x.2) (fun n x=>L1 call k a1 a2 v0_1 (fun v0_1_ v0_4_=>J 0 (S0 a1 a2 y0 v0_1_ v0_4_)) n x.1 x.2) (fun r x=>step1 call k a1 a2 v0_1 (fun v0_1_ v0_4_=>J 0 (S0 a1 a2 y0 v0_1_ v0_4_)) (fun v1_1 v1_6=>r (v1_1,v1_6)) x.1 x.2) (fun _=>rfl) (fun _ _=>rfl) fun J0 x=>?_
  kernel_rfl
theorem L0_eq(call:Cl)(k:Nat)(J:Nat→St→Option R)(a0:YM_0)(a1:(List Int))(a2:(List Int))(y0:YM_3):∀(n:Nat)(x:YM_7),siteI E call n_impl_bitsAt k s_impl_bitsAt (a0,a1,a2,()) J 0 n (S0 a1 a2 y0 x.1 x.2)=L0 call k y0 a1 a2 n x.1 x.2:=by
  refine loop_eq (s:=s_impl_bitsAt) (fun x=>S0 a1 a2 y0 x.1 x.2) (fun n x=>L0 call k y0 a1 a2 n x.1 x.2) (fun r x=>step0 call k y0 a1 a2 (fun(a1:(List Int))(a2:(List Int))(v0_1:Int)(v1_1_:Int)(v1_6_:(List Bool))=>L1 call k a1 a2 v0_1 (fun v0_1_ v0_4_=>r (v0_1_,v0_4_)) k v1_1_ v1_6_) (fun v0_1 v0_4=>r (v0_1,v0_4)) x.1 x.2) (fun _=>rfl) (fun _ _=>rfl) fun J0 x=>?_
  refine Eq.trans (b:=step0 call k y0 a1 a2 (fun a1 a2 v0_1 v1_1_ v1_6_=>siteI E call n_impl_bitsAt k s_impl_bitsAt (a0,a1,a2,()) (upJ 0 J0 J) 1 k (S1 a1 a2 y0 v0_1 v1_1_ v1_6_)) (fun v0_1 v0_4=>J0 (S0 a1 a2 y0 v0_1 v0_4)) x.1 x.2) (by kernel_rfl) ?_;rw[show(fun(a1:(List Int))(a2:(List Int))(v0_1:Int)(v1_1_:Int)(v1_6_:(List Bool))=>siteI E call n_impl_bitsAt k s_impl_bitsAt (a0,a1,a2,()) (upJ 0 J0 J) 1 k (S1 a1 a2 y0 v0_1 v1_1_ v1_6_))=(fun(a1:(List Int))(a2:(List Int))(v0_1:Int)(v1_1_:Int)(v1_6_:(List Bool))=>L1 call k a1 a2 v0_1 (fun v0_1_ v0_4_=>(upJ 0 J0 J) 0 (S0 a1 a2 y0 v0_1_ v0_4_)) k v1_1_ v1_6_)from funext fun a1=>funext fun a2=>funext fun v0_1=>funext fun v1_1_=>funext fun v1_6_=>L1_eq call k (upJ 0 J0 J) a0 a1 a2 y0 v0_1 k (v1_1_,v1_6_)]
  all_goals rfl
theorem F_eq(call:Cl)(k:Nat)(a0:YM_0)(a1:(List Int))(a2:(List Int)):bodyK E call n_impl_bitsAt k s_impl_bitsAt (a0,a1,a2,())=F call k a0 a1 a2:=by
  exact Eq.trans (b:=Fm call k (fun y0 a1 a2 v0_1_ v0_4_=>siteI E call n_impl_bitsAt k s_impl_bitsAt (a0,a1,a2,()) (fun _ _=>none) 0 k (S0 a1 a2 y0 v0_1_ v0_4_)) a0 a1 a2) (by kernel_rfl) (congrArg (fun l=>Fm call k l a0 a1 a2) (funext fun y0=>funext fun a1=>funext fun a2=>funext fun v0_1_=>funext fun v0_4_=>L0_eq call k (fun _ _=>none) a0 a1 a2 y0 k (v0_1_,v0_4_)))
end impl_bitsAt
namespace spec_l15Inputs
abbrev R:=(((List Int)×(Bool×Unit))×Unit)
def S1(a1:(List Bool))(y0:YM_4)(v0_2:Bool)(v0_3:Int)(v0_5:(List Int))(v1_1:Int)(v1_4:Int)(v1_5:Int):St:=⟨mkS 56 [(1,.v (.slc .bool) (a1)),(6,.ref [500006]),(7,.ref [500007]),(8,.v tI v1_1),(9,.v .bool (v0_2)),(10,.v tI (v0_3)),(11,.v tI v1_4),(12,.v tI v1_5)],[([500007],.list 2 tI (y0.1.1)),([500006],.list 2 tI (v0_5))]⟩
def S0(a1:(List Bool))(y0:YM_4)(v0_1:Int)(v0_2:Bool)(v0_3:Int)(v0_5:(List Int)):St:=⟨mkS 56 [(1,.v (.slc .bool) (a1)),(6,.ref [500006]),(7,.ref [500007]),(8,.v tI v0_1),(9,.v .bool v0_2),(10,.v tI v0_3)],[([500007],.list 2 tI (y0.1.1)),([500006],.list 2 tI v0_5)]⟩
def step1(call:Cl)(k:Nat)(a1:(List Bool))(y0:YM_4)(v0_2:Bool)(v0_3:Int)(v0_5:(List Int))(r0:(Int)→(Bool)→(Int)→((List Int))→Option R)(r1:(Int)→(Int)→(Int)→Option R)(v1_1:Int)(v1_4:Int)(v1_5:Int):Option R:=bif decide (v1_5>0)then bif decide (0≤v1_1)then(lget a1 v1_1.toNat).bind fun(y3:Bool)=>(call 217 s_spec_l5Bit (y3,())).bind fun(y4:YM_11×Unit)=>r1 (i64.wrap (v1_1+1)) (i64.wrap (i64.wrap (2*v1_4)+y4.1.1)) (i64.wrap (v1_5-1))else none else bif decide ((v0_5.length+[v1_4].length)*ti2.bytes≤140737488355328)then bif v0_2 then bif decide (0≤v0_3)&&decide (v0_3.toNat<List.length y0.1.1)then(lget y0.1.1 v0_3.toNat).bind fun(y5:Int)=>r0 v1_1 (decide (v1_4≤y5)) (i64.wrap (v0_3+1)) (v0_5++[v1_4])else none else r0 v1_1 false (i64.wrap (v0_3+1)) (v0_5++[v1_4])else none
def L1(call:Cl)(k:Nat)(a1:(List Bool))(y0:YM_4)(v0_2:Bool)(v0_3:Int)(v0_5:(List Int))(r0:(Int)→(Bool)→(Int)→((List Int))→Option R):Nat→(Int)→(Int)→(Int)→Option R|0,_,_,_=>none|n+1,v1_1,v1_4,v1_5=>step1 call k a1 y0 v0_2 v0_3 v0_5 r0 (L1 call k a1 y0 v0_2 v0_3 v0_5 r0 n) v1_1 v1_4 v1_5
def step0(call:Cl)(k:Nat)(y0:YM_4)(a1:(List Bool))(l1:((List Bool))→YM_4→(Bool)→(Int)→((List Int))→(Int)→(Int)→(Int)→Option R)(r0:(Int)→(Bool)→(Int)→((List Int))→Option R)(v0_1:Int)(v0_2:Bool)(v0_3:Int)(v0_5:(List Int)):Option R:=bif decide (v0_3<(↑(List.length y0.1.1):Int))then bif decide (0≤v0_3)&&decide (v0_3.toNat<List.length y0.1.1)then(lget y0.1.1 v0_3.toNat).bind fun(y1:Int)=>(call 94 s_spec_l3Bits (y1,())).bind fun(y2:YM_11×Unit)=>l1 a1 y0 v0_2 v0_3 v0_5 v0_1 0 y2.1.1 else none else some ((v0_5,v0_2,()),())
def L0(call:Cl)(k:Nat)(y0:YM_4)(a1:(List Bool)):Nat→(Int)→(Bool)→(Int)→((List Int))→Option R|0,_,_,_,_=>none|n+1,v0_1,v0_2,v0_3,v0_5=>step0 call k y0 a1 (fun a1_ y0_ v0_2_ v0_3_ v0_5_ v1_1_ v1_4_ v1_5_=>L1 call k a1_ y0_ v0_2_ v0_3_ v0_5_ (L0 call k y0 a1 n) k v1_1_ v1_4_ v1_5_) (L0 call k y0 a1 n) v0_1 v0_2 v0_3 v0_5
def Fm(call:Cl)(k:Nat)(l0:YM_4→((List Bool))→(Int)→(Bool)→(Int)→((List Int))→Option R)(a0:YM_0)(a1:(List Bool)):Option R:=(call 91 s_spec_l7Maxes (a0,())).bind fun(y0:((List Int×Unit)×Unit))=>l0 y0 a1 0 true 0 []
def F(call:Cl)(k:Nat)(a0:YM_0)(a1:(List Bool)):Option R:=Fm call k (fun y0_ a1_ v0_1_ v0_2_ v0_3_ v0_5_=>L0 call k y0_ a1_ k v0_1_ v0_2_ v0_3_ v0_5_) a0 a1
theorem L1_eq(call:Cl)(k:Nat)(J:Nat→St→Option R)(a0:YM_0)(a1:(List Bool))(y0:YM_5)(v0_2:Bool)(v0_3:Int)(v0_5:(List Int)):∀(n:Nat)(x:((Int)×(Int)×(Int))),siteI E call n_spec_l15Inputs k s_spec_l15Inputs (a0,a1,()) J 1 n (S1 a1 y0 v0_2 v0_3 v0_5 x.1 x.2.1 x.2.2)=L1 call k a1 y0 v0_2 v0_3 v0_5 (fun v0_1_ v0_2_ v0_3_ v0_5_=>J 0 (S0 a1 y0 v0_1_ v0_2_ v0_3_ v0_5_)) n x.1 x.2.1 x.2.2:=by
  refine loop_eq (s:=s_spec_l15Inputs) (fun x=>S1 a1 y0 v0_2 v0_3 v0_5 x.1 x.2.1 x.2.2) (fun n x=>L1 call k a1 y0 v0_2 v0_3 v0_5 (fun v0_1_ v0_2_ v0_3_ v0_5_=>J 0 (S0 a1 y0 v0_1_ v0_2_ v0_3_ v0_5_)) n x.1 x.2.1 x.2.2) (fun r x=>step1 call k a1 y0 v0_2 v0_3 v0_5 (fun v0_1_ v0_2_ v0_3_ v0_5_=>J 0 (S0 a1 y0 v0_1_ v0_2_ v0_3_ v0_5_)) (fun v1_1 v1_4 v1_5=>r (v1_1,v1_4,v1_5)) x.1 x.2.1 x.2.2) (fun _=>rfl) (fun _ _=>rfl) fun J0 x=>?_
  kernel_rfl
theorem L0_eq(call:Cl)(k:Nat)(J:Nat→St→Option R)(a0:YM_0)(a1:(List Bool))(y0:YM_5):∀(n:Nat)(x:((Int)×(Bool)×(Int)×((List Int)))),siteI E call n_spec_l15Inputs k s_spec_l15Inputs (a0,a1,()) J 0 n (S0 a1 y0 x.1 x.2.1 x.2.2.1 x.2.2.2)=L0 call k y0 a1 n x.1 x.2.1 x.2.2.1 x.2.2.2:=by
  refine loop_eq (s:=s_spec_l15Inputs) (fun x=>S0 a1 y0 x.1 x.2.1 x.2.2.1 x.2.2.2) (fun n x=>L0 call k y0 a1 n x.1 x.2.1 x.2.2.1 x.2.2.2) (fun r x=>step0 call k y0 a1 (fun(a1:(List Bool))(y0:YM_5)(v0_2:Bool)(v0_3:Int)(v0_5:(List Int))(v1_1_:Int)(v1_4_:Int)(v1_5_:Int)=>L1 call k a1 y0 v0_2 v0_3 v0_5 (fun v0_1_ v0_2_ v0_3_ v0_5_=>r (v0_1_,v0_2_,v0_3_,v0_5_)) k v1_1_ v1_4_ v1_5_) (fun v0_1 v0_2 v0_3 v0_5=>r (v0_1,v0_2,v0_3,v0_5)) x.1 x.2.1 x.2.2.1 x.2.2.2) (fun _=>rfl) (fun _ _=>rfl) fun J0 x=>?_
  refine Eq.trans (b:=step0 call k y0 a1 (fun a1 y0 v0_2 v0_3 v0_5 v1_1_ v1_4_ v1_5_=>siteI E call n_spec_l15Inputs k s_spec_l15Inputs (a0,a1,()) (upJ 0 J0 J) 1 k (S1 a1 y0 v0_2 v0_3 v0_5 v1_1_ v1_4_ v1_5_)) (fun v0_1 v0_2 v0_3 v0_5=>J0 (S0 a1 y0 v0_1 v0_2 v0_3 v0_5)) x.1 x.2.1 x.2.2.1 x.2.2.2) (by kernel_rfl) ?_;rw[show(fun(a1:(List Bool))(y0:YM_5)(v0_2:Bool)(v0_3:Int)(v0_5:(List Int))(v1_1_:Int)(v1_4_:Int)(v1_5_:Int)=>siteI E call n_spec_l15Inputs k s_spec_l15Inputs (a0,a1,()) (upJ 0 J0 J) 1 k (S1 a1 y0 v0_2 v0_3 v0_5 v1_1_ v1_4_ v1_5_))=(fun(a1:(List Bool))(y0:YM_5)(v0_2:Bool)(v0_3:Int)(v0_5:(List Int))(v1_1_:Int)(v1_4_:Int)(v1_5_:Int)=>L1 call k a1 y0 v0_2 v0_3 v0_5 (fun v0_1_ v0_2_ v0_3_ v0_5_=>(upJ 0 J0 J) 0 (S0 a1 y0 v0_1_ v0_2_ v0_3_ v0_5_)) k v1_1_ v1_4_ v1_5_)from funext fun a1=>funext fun y0=>funext fun v0_2=>funext fun v0_3=>funext fun v0_5=>funext fun v1_1_=>funext fun v1_4_=>funext fun v1_5_=>L1_eq call k (upJ 0 J0 J) a0 a1 y0 v0_2 v0_3 v0_5 k (v1_1_,v1_4_,v1_5_)]
  all_goals rfl
theorem F_eq(call:Cl)(k:Nat)(a0:YM_0)(a1:(List Bool)):bodyK E call n_spec_l15Inputs k s_spec_l15Inputs (a0,a1,())=F call k a0 a1:=by
  exact Eq.trans (b:=Fm call k (fun y0 a1 v0_1_ v0_2_ v0_3_ v0_5_=>siteI E call n_spec_l15Inputs k s_spec_l15Inputs (a0,a1,()) (fun _ _=>none) 0 k (S0 a1 y0 v0_1_ v0_2_ v0_3_ v0_5_)) a0 a1) (by kernel_rfl) (congrArg (fun l=>Fm call k l a0 a1) (funext fun y0=>funext fun a1=>funext fun v0_1_=>funext fun v0_2_=>funext fun v0_3_=>funext fun v0_5_=>L0_eq call k (fun _ _=>none) a0 a1 y0 k (v0_1_,v0_2_,v0_3_,v0_5_)))
end spec_l15Inputs
namespace spec_l15Make
abbrev R:=(((Int×(Int×((List (Int×(Int×(Int×Unit))))×Unit)))×Unit)×Unit)
def S0(a0:YM_0)(a1:Bool)(a2:YM_6)(a3:Int)(a4:Int)(y0:YM_8)(v0_4:Int)(v0_5:(List Bool)):St:=⟨mkS 67 [(1,.v .bool (a1)),(3,.v tI (a3)),(4,.v tI (a4)),(5,.p [500005] [] 0),(7,.p [500007] [] 0),(10,.p [500010] [] 0),(11,.v tI (y0.1.1)),(12,.ref [500012]),(13,.v tI v0_4)],[([500012],.list 4 .bool v0_5),([500010,5,1,1,0],.list 168 (.pair tI tTm) ([])),([500010],.box (.pr (.v tI (0)) (.pr (.v tI (0)) (.pr (.ref [500010,5,1,1,0]) (.v .unit ()))))),([500007],.box (.v (.pair tI tTm) ((a2.1),((a2.2.1),((a2.2.2.1),()))))),([500005],.box (.v tPg ((a0.1),((a0.2.1),((a0.2.2.1),((a0.2.2.2.1),((a0.2.2.2.2.1),((a0.2.2.2.2.2.1),()))))))))]⟩
def step0(call:Cl)(k:Nat)(a0:YM_0)(a1:Bool)(a2:YM_6)(a3:Int)(a4:Int)(y0:YM_8)(r0:(Int)→((List Bool))→Option R)(v0_4:Int)(v0_5:(List Bool)):Option R:=(call 183 s_spec_l13Size (y0.1.1,())).bind fun(y1:YM_11×Unit)=>bif decide (v0_4<y1.1.1)then(call 185 s_spec_l13Bits (y0.1.1,v0_4,())).bind fun(y2:((List Bool×Unit)×Unit))=>(call 184 s_spec_l15Inputs (a0,y2.1.1,())).bind fun(y3:((List Int×Bool×Unit)×Unit))=>bif y3.1.2.1 then bif !a1 then(call 167 s_spec_l6Of (a0,y3.1.1,())).bind fun(y4:(((List Int×Int×Int×Unit)×Unit)×Unit))=>(call 108 s_spec_l15Shape (y4.1.1,())).bind fun(y5:(((Int×Int×Int×Unit)×Unit)×Unit))=>bif eqV ((Ty.int .i64).pair ((Ty.int .i64).pair ((Ty.int .i64).pair Ty.unit))) y5.1.1 (a2.1,a2.2.1,a2.2.2.1,())then bif decide (a3≥0)then bif decide (0≤a3)&&decide (a3.toNat<List.length y4.1.1.1)then(lget y4.1.1.1 a3.toNat).bind fun(y6:Int)=>bif decide (a4=0)then none else bif decide ((v0_5.length+[(i64.wrap (y6.tdiv a4)).tmod 2==1].length)*ti4.bytes≤140737488355328)then r0 (i64.wrap (v0_4+1)) (v0_5++[(i64.wrap (y6.tdiv a4)).tmod 2==1])else none else none else bif decide ((v0_5.length+[eqV ((Ty.int .i64).pair ((Ty.int .i64).pair ((Ty.int .i64).pair Ty.unit))) y5.1.1 (a2.1,a2.2.1,a2.2.2.1,())].length)*ti4.bytes≤140737488355328)then r0 (i64.wrap (v0_4+1)) (v0_5++[eqV ((Ty.int .i64).pair ((Ty.int .i64).pair ((Ty.int .i64).pair Ty.unit))) y5.1.1 (a2.1,a2.2.1,a2.2.2.1,())])else none else bif decide ((v0_5.length+[eqV ((Ty.int .i64).pair ((Ty.int .i64).pair ((Ty.int .i64).pair Ty.unit))) y5.1.1 (a2.1,a2.2.1,a2.2.2.1,())].length)*ti4.bytes≤140737488355328)then r0 (i64.wrap (v0_4+1)) (v0_5++[eqV ((Ty.int .i64).pair ((Ty.int .i64).pair ((Ty.int .i64).pair Ty.unit))) y5.1.1 (a2.1,a2.2.1,a2.2.2.1,())])else none else bif decide ((v0_5.length+[y3.1.2.1].length)*ti4.bytes≤140737488355328)then r0 (i64.wrap (v0_4+1)) (v0_5++[y3.1.2.1])else none else bif decide ((v0_5.length+[y3.1.2.1].length)*ti4.bytes≤140737488355328)then r0 (i64.wrap (v0_4+1)) (v0_5++[y3.1.2.1])else none else(call 186 s_spec_l13Make (y0.1.1,v0_5,())).bind fun(y7:YM_1)=>some ((y7.1.1,()),())
def L0(call:Cl)(k:Nat)(a0:YM_0)(a1:Bool)(a2:YM_6)(a3:Int)(a4:Int)(y0:YM_8):Nat→(Int)→((List Bool))→Option R|0,_,_=>none|n+1,v0_4,v0_5=>step0 call k a0 a1 a2 a3 a4 y0 (L0 call k a0 a1 a2 a3 a4 y0 n) v0_4 v0_5
def Fm(call:Cl)(k:Nat)(l0:(YM_0)→(Bool)→(YM_6)→(Int)→(Int)→(YM_8)→(Int)→((List Bool))→Option R)(a0:YM_0)(a1:Bool)(a2:YM_6)(a3:Int)(a4:Int):Option R:=(call 144 s_spec_l3AllBits (a0,())).bind fun(y0:YM_11×Unit)=>l0 a0 a1 a2 a3 a4 y0 0 []
def F(call:Cl)(k:Nat)(a0:YM_0)(a1:Bool)(a2:YM_6)(a3:Int)(a4:Int):Option R:=Fm call k (fun a0_ a1_ a2_ a3_ a4_ y0_ v0_4_ v0_5_=>L0 call k a0_ a1_ a2_ a3_ a4_ y0_ k v0_4_ v0_5_) a0 a1 a2 a3 a4
theorem L0_eq(call:Cl)(k:Nat)(J:Nat→St→Option R)(a0:YM_0)(a1:Bool)(a2:YM_6)(a3:Int)(a4:Int)(y0:YM_8):∀(n:Nat)(x:YM_7),siteI E call n_spec_l15Make k s_spec_l15Make (a0,a1,a2,a3,a4,()) J 0 n (S0 a0 a1 a2 a3 a4 y0 x.1 x.2)=L0 call k a0 a1 a2 a3 a4 y0 n x.1 x.2:=by
  refine loop_eq (s:=s_spec_l15Make) (fun x=>S0 a0 a1 a2 a3 a4 y0 x.1 x.2) (fun n x=>L0 call k a0 a1 a2 a3 a4 y0 n x.1 x.2) (fun r x=>step0 call k a0 a1 a2 a3 a4 y0 (fun v0_4 v0_5=>r (v0_4,v0_5)) x.1 x.2) (fun _=>rfl) (fun _ _=>rfl) fun J0 x=>?_
  kernel_rfl
theorem F_eq(call:Cl)(k:Nat)(a0:YM_0)(a1:Bool)(a2:YM_6)(a3:Int)(a4:Int):bodyK E call n_spec_l15Make k s_spec_l15Make (a0,a1,a2,a3,a4,())=F call k a0 a1 a2 a3 a4:=by
  exact Eq.trans (b:=Fm call k (fun a0 a1 a2 a3 a4 y0 v0_4_ v0_5_=>siteI E call n_spec_l15Make k s_spec_l15Make (a0,a1,a2,a3,a4,()) (fun _ _=>none) 0 k (S0 a0 a1 a2 a3 a4 y0 v0_4_ v0_5_)) a0 a1 a2 a3 a4) (by kernel_rfl) (congrArg (fun l=>Fm call k l a0 a1 a2 a3 a4) (funext fun a0=>funext fun a1=>funext fun a2=>funext fun a3=>funext fun a4=>funext fun y0=>funext fun v0_4_=>funext fun v0_5_=>L0_eq call k (fun _ _=>none) a0 a1 a2 a3 a4 y0 k (v0_4_,v0_5_)))
end spec_l15Make
namespace spec_RangeDia
abbrev R:=(((Int×(Int×((List (Int×(Int×(Int×Unit))))×Unit)))×Unit)×Unit)
def Fm(call:Cl)(k:Nat)(a0:YM_0):Option R:=(call 87 s_spec_ProgOk (a0,())).bind fun(y0:YM_10×Unit)=>bif !y0.1.1 then some (((0,0,[],()),()),())else(call 139 s_spec_l15Make (a0,true,(0,0,0,()),(-1),1,())).bind fun(y1:YM_1)=>some ((y1.1.1,()),())
def F(call:Cl)(k:Nat)(a0:YM_0):Option R:=Fm call k a0
theorem F_eq(call:Cl)(k:Nat)(a0:YM_0):bodyK E call n_spec_RangeDia k s_spec_RangeDia (a0,())=F call k a0:=by kernel_rfl
end spec_RangeDia
namespace spec_ShapeDia
abbrev R:=(((Int×(Int×((List (Int×(Int×(Int×Unit))))×Unit)))×Unit)×Unit)
def Fm(call:Cl)(k:Nat)(a0:YM_0)(a1:YM_6):Option R:=(call 87 s_spec_ProgOk (a0,())).bind fun(y0:YM_10×Unit)=>bif !y0.1.1 then some (((0,0,[],()),()),())else(call 139 s_spec_l15Make (a0,false,a1,(-1),1,())).bind fun(y1:YM_1)=>some ((y1.1.1,()),())
def F(call:Cl)(k:Nat)(a0:YM_0)(a1:YM_6):Option R:=Fm call k a0 a1
theorem F_eq(call:Cl)(k:Nat)(a0:YM_0)(a1:YM_6):bodyK E call n_spec_ShapeDia k s_spec_ShapeDia (a0,a1,())=F call k a0 a1:=by kernel_rfl
end spec_ShapeDia
namespace spec_ValueDia
abbrev R:=(((Int×(Int×((List (Int×(Int×(Int×Unit))))×Unit)))×Unit)×Unit)
def S0(a0:YM_0)(a1:YM_6)(a2:Int)(v0_1:Int)(v0_2:Int):St:=⟨mkS 42 [(2,.v tI (a2)),(3,.v tI v0_1),(4,.p [500004] [] 0),(5,.p [500005] [] 0),(8,.p [500008] [] 0),(9,.v tI v0_2)],[([500008,5,1,1,0],.list 168 (.pair tI tTm) ([])),([500008],.box (.pr (.v tI (0)) (.pr (.v tI (0)) (.pr (.ref [500008,5,1,1,0]) (.v .unit ()))))),([500005],.box (.v (.pair tI tTm) ((a1.1),((a1.2.1),((a1.2.2.1),()))))),([500004],.box (.v tPg ((a0.1),((a0.2.1),((a0.2.2.1),((a0.2.2.2.1),((a0.2.2.2.2.1),((a0.2.2.2.2.2.1),()))))))))]⟩
def step0(call:Cl)(k:Nat)(a0:YM_0)(a1:YM_6)(a2:Int)(r0:(Int)→(Int)→Option R)(v0_1:Int)(v0_2:Int):Option R:=bif decide (v0_1>0)then r0 (i64.wrap (v0_1-1)) (i64.wrap (v0_2*2))else(call 139 s_spec_l15Make (a0,false,(a1.1,a1.2.1,a1.2.2.1,()),a2,v0_2,())).bind fun(y5:YM_1)=>some ((y5.1.1,()),())
def L0(call:Cl)(k:Nat)(a0:YM_0)(a1:YM_6)(a2:Int):Nat→(Int)→(Int)→Option R|0,_,_=>none|n+1,v0_1,v0_2=>step0 call k a0 a1 a2 (L0 call k a0 a1 a2 n) v0_1 v0_2
def Fm(call:Cl)(k:Nat)(l0:(YM_0)→(YM_6)→(Int)→(Int)→(Int)→Option R)(a0:YM_0)(a1:YM_6)(a2:Int)(a3:Int):Option R:=(call 87 s_spec_ProgOk (a0,())).bind fun(y0:YM_10×Unit)=>bif !y0.1.1 then some (((0,0,[],()),()),())else(call 123 s_spec_l1In (a2,0,i64.wrap (a1.1-1),())).bind fun(y1:YM_10×Unit)=>bif !y1.1.1 then(call 144 s_spec_l3AllBits (a0,())).bind fun(y2:YM_11×Unit)=>some (((y2.1.1,0,[],()),()),())else(call 123 s_spec_l1In (a3,0,i64.wrap (a0.1-1),())).bind fun(y3:YM_10×Unit)=>bif !y3.1.1 then(call 144 s_spec_l3AllBits (a0,())).bind fun(y4:YM_11×Unit)=>some (((y4.1.1,0,[],()),()),())else l0 a0 a1 a2 a3 1
def F(call:Cl)(k:Nat)(a0:YM_0)(a1:YM_6)(a2:Int)(a3:Int):Option R:=Fm call k (fun a0_ a1_ a2_ v0_1_ v0_2_=>L0 call k a0_ a1_ a2_ k v0_1_ v0_2_) a0 a1 a2 a3
theorem L0_eq(call:Cl)(k:Nat)(J:Nat→St→Option R)(a0:YM_0)(a1:YM_6)(a2:Int)(a3:Int):∀(n:Nat)(x:YM_9),siteI E call n_spec_ValueDia k s_spec_ValueDia (a0,a1,a2,a3,()) J 0 n (S0 a0 a1 a2 x.1 x.2)=L0 call k a0 a1 a2 n x.1 x.2:=by
  refine loop_eq (s:=s_spec_ValueDia) (fun x=>S0 a0 a1 a2 x.1 x.2) (fun n x=>L0 call k a0 a1 a2 n x.1 x.2) (fun r x=>step0 call k a0 a1 a2 (fun v0_1 v0_2=>r (v0_1,v0_2)) x.1 x.2) (fun _=>rfl) (fun _ _=>rfl) fun J0 x=>?_
  kernel_rfl
theorem F_eq(call:Cl)(k:Nat)(a0:YM_0)(a1:YM_6)(a2:Int)(a3:Int):bodyK E call n_spec_ValueDia k s_spec_ValueDia (a0,a1,a2,a3,())=F call k a0 a1 a2 a3:=by
  exact Eq.trans (b:=Fm call k (fun a0 a1 a2 v0_1_ v0_2_=>siteI E call n_spec_ValueDia k s_spec_ValueDia (a0,a1,a2,a3,()) (fun _ _=>none) 0 k (S0 a0 a1 a2 v0_1_ v0_2_)) a0 a1 a2 a3) (by kernel_rfl) (congrArg (fun l=>Fm call k l a0 a1 a2 a3) (funext fun a0=>funext fun a1=>funext fun a2=>funext fun v0_1_=>funext fun v0_2_=>L0_eq call k (fun _ _=>none) a0 a1 a2 a3 k (v0_1_,v0_2_)))
end spec_ValueDia
end Go.Proofs.YtjgfofcgmcnblaaGreat.Pf
namespace Go.Proofs.YtjgfofcgmcnblaaGreat.Pf
open Go Go.Pv
theorem ti4b:ti4.bytes=1:=rfl
theorem bitsN_cons(m n:Nat):bitsN (m+1) n=n.testBit m::bitsN m n:=by
  unfold bitsN;rw[List.range_succ_eq_map,List.map_cons,List.map_map]
  congr 1
  refine List.map_congr_left fun i _=>?_
  show bitN (m+1) n (i+1)=bitN m n i
  unfold bitN;rw[show m+1-1-(i+1)=m-1-i by omega]
theorem shr_bit {n j:Nat}(hj:j≤63):(bitsI .and .i64 (shrI .i64 (n:Int) (j:Int)) 1==1)=n.testBit j:=by
  have h:=bitsI_mask (shrI .i64 (n:Int) (j:Int)) (w:=1) (by omega);have h:bitsI .and .i64 (shrI .i64 (n:Int) (j:Int)) 1=shrI .i64 (n:Int) (j:Int)% 2:=h;have e:shrI .i64 (n:Int) (j:Int)=((n/2^j:Nat):Int):=by
    unfold shrI;rw[Int.toNat_natCast,show min j IntKind.i64.bits=j from Nat.min_eq_left (Nat.le_trans hj (by decide)),Int.fdiv_eq_ediv_of_nonneg _ (Int.le_of_lt (Int.pow_pos (by omega)))];have h2:(2:Int)^j=((2^j:Nat):Int):=by simp
    rw[h2];rfl
  rw[h,e,Nat.testBit_eq_decide_div_mod_eq];by_cases c:n/2^j % 2=1
  . rw[decide_eq_true c];have:((n/2^j:Nat):Int)% 2=1:=by omega
    rw[this];rfl
  . rw[decide_eq_false c];have:((n/2^j:Nat):Int)% 2=0:=by omega
    rw[this];rfl
theorem wd_bits(m:Int):((wd m:Nat):Int)=bits m:=by
  have:=bits_bd m;unfold wd;omega
theorem wdS_sum:∀l:List Ip,((wdS (l.map (·.1)):Nat):Int)=sumBits l
  |[]=>rfl
  | x::l=>by
    have h:=wdS_sum l;have h2:=wd_bits x.1;show((wd x.1+wdS (l.map (·.1)):Nat):Int)=bits x.1+sumBits l
    omega
theorem wdS_app:∀a b:List Int,wdS (a++b)=wdS a+wdS b
  |[],b=>(Nat.zero_add _).symm
  | m::a,b=>by
    show wd m+wdS (a++b)=wd m+wdS a+wdS b
    rw[wdS_app a b,Nat.add_assoc]
theorem bitsAt_in(k:Nat)(l s:List Int)(j x:Nat)(hj:j<([]++l++s).length)(hx:lget ([]++l++s) j=some (x:Int))(r0:Int→List Bool→Option impl_bitsAt.R):∀(d q:Nat)(acc:List Bool),d<q→d≤10→acc.length+d≤1000→
    impl_bitsAt.L1 (cl k) k l s (j:Int) r0 q ((d:Int)-1) acc=r0 (IntKind.i64.wrap ((j:Int)+1)) (acc++bitsN d x):=by
  intro d
  induction d with
  | zero=>
    intro q acc hq hd hl;obtain⟨q,rfl⟩:∃m,q=m+1:=⟨q-1,by omega⟩
    simp only[impl_bitsAt.L1,impl_bitsAt.step1];rw[decide_eq_false (by omega),cond_false,show bitsN 0 x=[]from rfl,List.append_nil]
  | succ d ih=>
    intro q acc hq hd hl;obtain⟨q,rfl⟩:∃m,q=m+1:=⟨q-1,by omega⟩
    have e1:((d+1:Nat):Int)-1=(d:Int):=by omega
    have:=ih q (acc++[x.testBit d]) (by omega) (by omega) (by simp;omega);simp only[impl_bitsAt.L1,impl_bitsAt.step1,e1];rw[decide_eq_true (by omega),cond_true,idx_ok hj,cond_true,Int.toNat_natCast,hx,Option.bind_some,decide_eq_false (by omega),cond_false,shr_bit (by omega),apb (by rw[ti4b];simp only[List.length_cons,List.length_nil];omega),cond_true,w64 (by omega) (by omega),this,bitsN_cons,List.append_assoc,List.singleton_append]
section
variable {p:Pg}(hp:Hd p)
include hp
theorem wd10:wdS (mx p)≤10:=by
  have hs:=hp.i.2.2.2;have h1:=wdS_sum p.2.1;have h2:=wdS_sum p.2.2.1;unfold mx;rw[wdS_app];omega
theorem mx_ips:mx p=(p.2.1++p.2.2.1).map (·.1):=by unfold mx;rw[List.map_append]
theorem manyBits_ans:Ans n_impl_manyBits s_impl_manyBits (p,()) ((((wdS (mx p):Nat):Int),()),()):=by
  have hb:=hp.b;have hc:=wd10 hp;have hf:=mx_few hp;have hn:(p.2.1++p.2.2.1).length≤6:=by rw[List.length_append];omega
  have hA:=allIn_ans hp;refine Gv.ans (Gv.of (fun k=>impl_manyBits.F_eq (cl k) k p) ?_);unfold impl_manyBits.F impl_manyBits.Fm;rw[mx_ips hp]at hc hf⊢;generalize p.2.1++p.2.2.1=l at*;refine Tq.ba hA ?_;have key:∀(d j c:Nat),l.length-j=d→c+wdS ((l.drop j).map (·.1))≤10→Tq (d+1) (fun k q=>impl_manyBits.L0 (cl k) k ((l,()),()) q (c:Int) (j:Int)) (· =((((c+wdS ((l.drop j).map (·.1)):Nat):Int),()),())):=by
    intro d
    induction d with
    | zero=>
      intro j c hd h2;refine Tq.succ ?_;show Tq _ (fun k q=>impl_manyBits.step0 (cl k) k ..) _
      unfold impl_manyBits.step0;rw[List.drop_of_length_le (by omega)];exact Tq.bf (dnlt (by first|omega|(dsimp only;omega))) (Tq.ret rfl)
    | succ d ih=>
      intro j c hd h2;have hj:j<l.length:=by omega
      have hx:0≤l[j].1∧l[j].1≤255:=hf _ (List.mem_map.2 ⟨_,List.getElem_mem hj,rfl⟩);have e:wdS ((l.drop j).map (·.1))=wd l[j].1+wdS ((l.drop (j+1)).map (·.1)):=by
        rw[List.drop_eq_getElem_cons hj];rfl
      have e2:=wd_bits l[j].1;rw[e]at h2⊢;refine Tq.succ ?_;show Tq _ (fun k q=>impl_manyBits.step0 (cl k) k ..) _
      unfold impl_manyBits.step0;refine Tq.bt (dlt hj) (Tq.bt (idx_ok hj) (Tq.some (lg hj) (Tq.ba (iBits_ans l[j].1 (by omega)) ?_)));have:=ih (j+1) (c+wd l[j].1) (by omega) (by omega);rw[Nat.add_assoc]at this;rw[ws hj (by omega),w64 (x:=(c:Int)+bits l[j].1) (by omega) (by omega),show(c:Int)+bits l[j].1=((c+wd l[j].1:Nat):Int) by omega];exact this
  have:=key _ 0 0 rfl (by rw[Nat.zero_add];exact hc);rw[Nat.zero_add]at this;exact Tq.diag this
theorem bitsAt_ans {l s:List Int}(hu:Under (mx p) (l++s)):Ans n_impl_bitsAt s_impl_bitsAt (p,l,s,()) ((enc (mx p) (l++s),()),()):=by
  have hb:=hp.b;have hc:=wd10 hp;have hf:=mx_few hp;have hn:(p.2.1++p.2.2.1).length≤6:=by rw[List.length_append];omega
  have hA:=allIn_ans hp;have hl:=hu.1;have hl2:(l++s).length=l.length+s.length:=List.length_append;refine Gv.ans (Gv.of (fun k=>impl_bitsAt.F_eq (cl k) k p l s) ?_);unfold impl_bitsAt.F impl_bitsAt.Fm;rw[mx_ips hp]at hc hf hl hu⊢;rw[List.length_map]at hl;generalize p.2.1++p.2.2.1=ips at*;refine Tq.bt (apb (by rw[by2];omega)) (Tq.bt (apb (by rw[by2,List.nil_append];omega)) (Tq.ba hA ?_));have key:∀(d j:Nat)(acc:List Bool),ips.length-j=d→acc.length+wdS ((ips.drop j).map (·.1))≤10→Tq (d+1) (fun k q=>impl_bitsAt.L0 (cl k) k ((ips,()),()) l s q (j:Int) acc) (· =((acc++enc ((ips.drop j).map (·.1)) ((l++s).drop j),()),())):=by
    intro d
    induction d with
    | zero=>
      intro j acc hd h2;refine Tq.succ ?_;show Tq _ (fun k q=>impl_bitsAt.step0 (cl k) k ..) _
      unfold impl_bitsAt.step0;rw[List.drop_of_length_le (by omega),List.map_nil];exact Tq.bf (dnlt (by dsimp only;omega)) (Tq.ret (by unfold enc;rw[List.append_nil]))
    | succ d ih=>
      intro j acc hd h2;have hj:j<ips.length:=by omega
      have hj2:j<(l++s).length:=by omega
      have hx:0≤ips[j].1∧ips[j].1≤255:=hf _ (List.mem_map.2 ⟨_,List.getElem_mem hj,rfl⟩);have hy:=hu.2 j hj2 (by rw[List.length_map];exact hj);obtain⟨x,ex⟩:∃x:Nat,(l++s)[j]=(x:Int):=⟨(l++s)[j].toNat,by omega⟩
      have e:wdS ((ips.drop j).map (·.1))=wd ips[j].1+wdS ((ips.drop (j+1)).map (·.1)):=by
        rw[List.drop_eq_getElem_cons hj];rfl
      have e3:enc ((ips.drop j).map (·.1)) ((l++s).drop j)=bitsN (wd ips[j].1) x++enc ((ips.drop (j+1)).map (·.1)) ((l++s).drop (j+1)):=by
        rw[List.drop_eq_getElem_cons hj,List.drop_eq_getElem_cons hj2,ex];rfl
      have e2:=wd_bits ips[j].1;rw[e]at h2;rw[e3];refine Tq.succ ?_;show Tq _ (fun k q=>impl_bitsAt.step0 (cl k) k ..) _
      unfold impl_bitsAt.step0;refine Tq.bt (dlt hj) (Tq.bt (idx_ok hj) (Tq.some (lg hj) (Tq.ba (iBits_ans ips[j].1 (by omega)) ?_)));rw[w64 (x:=bits ips[j].1-1) (by omega) (by omega),←e2];refine Tq.evEq ⟨11,fun k hk q _=>bitsAt_in k l s j x hj2 (by rw[List.nil_append,lgn hj2,ex]) _ (wd ips[j].1) k acc (by omega) (by omega) (by omega)⟩ ?_;rw[ws hj (by omega)];have:=ih (j+1) (acc++bitsN (wd ips[j].1) x) (by omega) (by rw[List.length_append,bitsN_len];omega);rw[List.append_assoc]at this;exact this
  have:=key _ 0 [] rfl (by rw[List.length_nil,Nat.zero_add];exact hc);exact Tq.diag this
omit hp in
theorem placeOf_ans {l:List Bool}(hl:l.length≤10):Ans n_impl_placeOf s_impl_placeOf (l,()) ((((vF l:Nat):Int),()),()):=by
  refine Gv.ans (Gv.of (fun k=>impl_placeOf.F_eq (cl k) k l) ?_);unfold impl_placeOf.F impl_placeOf.Fm;have key:∀(d j:Nat),l.length-j=d→j≤l.length→Tq (d+1) (fun k q=>impl_placeOf.L0 (cl k) k l q ((vF (l.take j):Nat):Int) (j:Int)) (· =((((vF l:Nat):Int),()),())):=by
    intro d
    induction d with
    | zero=>
      intro j hd hj;refine Tq.succ ?_;show Tq _ (fun k q=>impl_placeOf.step0 (cl k) k ..) _
      unfold impl_placeOf.step0;rw[List.take_of_length_le (by omega)];exact Tq.bf (dnlt (by first|omega|(dsimp only;omega))) (Tq.ret rfl)
    | succ d ih=>
      intro j hd hj;have hj:j<l.length:=by omega
      have hv:=vF_lt (l.take j);have hp:=dpow10 (m:=(l.take j).length) (by rw[List.length_take];omega);refine Tq.succ ?_;show Tq _ (fun k q=>impl_placeOf.step0 (cl k) k ..) _
      unfold impl_placeOf.step0;refine Tq.bt (dlt hj) (Tq.bt (dle0 _) (Tq.some (lg hj) (Tq.ba (truth_ans l[j]) ?_)));have:=ih (j+1) (by omega) (by omega);rw[List.take_succ_eq_append_getElem hj,vF_snoc]at this;have e:((2*vF (l.take j)+bN l[j]:Nat):Int)=2*((vF (l.take j):Nat):Int)+(bif l[j]then 1 else 0):=by
        cases l[j]
        . show((2*vF (l.take j)+0:Nat):Int)=2*((vF (l.take j):Nat):Int)+0;omega
        . show((2*vF (l.take j)+1:Nat):Int)=2*((vF (l.take j):Nat):Int)+1;omega
      rw[e]at this
      try dsimp only
      have b1:(0:Int)≤(bif l[j]then 1 else 0)∧(bif l[j]then(1:Int)else 0)≤1:=by cases l[j]<;>exact⟨by decide,by decide⟩
      rw[ws hj (by omega),w64 (x:=2*((vF (l.take j):Nat):Int)) (by omega) (by omega),w64 (by omega) (by omega)];exact this
  exact Tq.diag (key _ 0 rfl (Nat.zero_le _))
end
end Go.Proofs.YtjgfofcgmcnblaaGreat.Pf
namespace Go.Proofs.YtjgfofcgmcnblaaGreat.Pf
open Go Go.Pv IntKind
abbrev YE_6:Type:=((List Int)×(Int×(Int×Unit)))
abbrev YE_8:Type:=(Int×(Int×(Int×Unit)))
namespace impl_shapeOf
abbrev R:=(((Int×(Int×(Int×Unit)))×Unit)×Unit)
def Fm(call:Cl)(k:Nat)(a0:YE_6):Option R:=some ((((↑(List.length a0.1):Int),a0.2.1,a0.2.2.1,()),()),())
def F(call:Cl)(k:Nat)(a0:YE_6):Option R:=Fm call k a0
theorem F_eq(call:Cl)(k:Nat)(a0:YE_6):bodyK E call n_impl_shapeOf k s_impl_shapeOf (a0,())=F call k a0:=by kernel_rfl
end impl_shapeOf
namespace spec_l15Shape
abbrev R:=(((Int×(Int×(Int×Unit)))×Unit)×Unit)
def Fm(call:Cl)(k:Nat)(a0:YE_6):Option R:=some ((((↑(List.length a0.1):Int),a0.2.1,a0.2.2.1,()),()),())
def F(call:Cl)(k:Nat)(a0:YE_6):Option R:=Fm call k a0
theorem F_eq(call:Cl)(k:Nat)(a0:YE_6):bodyK E call n_spec_l15Shape k s_spec_l15Shape (a0,())=F call k a0:=by kernel_rfl
end spec_l15Shape
namespace laws_toShape
abbrev R:=(((Int×(Int×(Int×Unit)))×Unit)×Unit)
def Fm(call:Cl)(k:Nat)(a0:YE_8):Option R:=some (((a0.1,a0.2.1,a0.2.2.1,()),()),())
def F(call:Cl)(k:Nat)(a0:YE_8):Option R:=Fm call k a0
theorem F_eq(call:Cl)(k:Nat)(a0:YE_8):bodyK E call n_laws_toShape k s_laws_toShape (a0,())=F call k a0:=by kernel_rfl
end laws_toShape
end Go.Proofs.YtjgfofcgmcnblaaGreat.Pf
namespace Go.Proofs.YtjgfofcgmcnblaaGreat.Pf
open Go Go.Pv
section
variable {p:Pg}(hsm:Small p){l s:List Int}{free:List Bool}(hl:l.length≤1048576)(hs:s.length≤1048576)
include hsm hl hs
end
abbrev Sh:=Int×(Int×(Int×Unit))
abbrev shT:Ty:=.pair (.int .i64) (.pair (.int .i64) (.pair (.int .i64) .unit))
def shp(o:Oc):Sh:=((o.1.length:Int),o.2.1,o.2.2.1,())
theorem eqSh(x y:Sh):eqV shT x y=bo (x=y):=by
  by_cases h:x=y
  . subst h;rw[bo_t rfl];simp[shT,eqV]
  . rw[bo_f h];cases e:eqV shT x y
    . rfl
    . exact absurd (keyV_eq (t:=shT) rfl e) h
theorem iShape_ans(o:Oc):Ans n_impl_shapeOf s_impl_shapeOf (o,()) ((shp o,()),()):=
  Gv.ans (Gv.of (fun k=>impl_shapeOf.F_eq (cl k) k o) (Tq.ret rfl))
theorem sShape_ans(o:Oc):Ans n_spec_l15Shape s_spec_l15Shape (o,()) ((shp o,()),()):=
  Gv.ans (Gv.of (fun k=>spec_l15Shape.F_eq (cl k) k o) (Tq.ret rfl))
section
variable {p:Pg}(hsm:Small p){l s:List Int}{free:List Bool}(hl:l.length≤1048576)(hs:s.length≤1048576)
include hsm hl hs
end
section
variable {p:Pg}(hsm:Small p){l s:List Int}{free:List Bool}(hl:l.length≤1048576)(hs:s.length≤1048576)
include hsm hl hs
end
end Go.Proofs.YtjgfofcgmcnblaaGreat.Pf
namespace Go.Proofs.YtjgfofcgmcnblaaGreat.Pf
open Go Go.Pv
def okF:List Int→List Int→Bool
  |m::ms,x::xs=>decide (x≤m)&&okF ms xs
  | _,_=>true
theorem under_cons {m x:Int}{A l:List Int}:Under (m::A) (x::l)↔(0≤x∧x≤m)∧Under A l:=by
  constructor
  . exact fun h=>⟨h.2 0 (by simp) (by simp),h.tail⟩
  . rintro⟨h1,h2⟩;refine⟨by rw[List.length_cons,List.length_cons,h2.1],fun i i1 i2=>?_⟩;cases i with
    |zero=>exact h1
    |succ i=>exact h2.2 i (by simpa using i1) (by simpa using i2)
theorem ok_dec:∀(ms:List Int)(l:List Bool),okF ms (dec ms l)=bo (Under ms (dec ms l))
  |[],l=>(bo_t ⟨rfl,fun i h=>by simp[dec]at h⟩).symm
  | m ::ms,l=>by
    have ih:=ok_dec ms (l.drop (wd m));show(decide (((vF (l.take (wd m)):Nat):Int)≤m)&&okF ms (dec ms (l.drop (wd m))))=bo (Under (m::ms) (((vF (l.take (wd m)):Nat):Int)::dec ms (l.drop (wd m))))
    rw[ih];by_cases c1:((vF (l.take (wd m)):Nat):Int)≤m
    . by_cases c2:Under ms (dec ms (l.drop (wd m)))
      . rw[decide_eq_true c1,bo_t c2,bo_t (under_cons.2 ⟨⟨Int.natCast_nonneg _,c1⟩,c2⟩)];rfl
      . rw[bo_f c2,bo_f fun h=>c2 (under_cons.1 h).2,Bool.and_false]
    . rw[decide_eq_false c1,bo_f fun h=>c1 (under_cons.1 h).1.2,Bool.false_and]
def vG(n:Nat)(l:List Bool):Nat:=l.foldl (fun a b=>2*a+bN b) n
theorem l15_in {k:Nat}(hb:BitK k)(l:List Bool)(ms:List Int)(j:Nat)(hj:j<ms.length)(is:Bool)(acc:List Int)(ha:acc.length≤6)(r0:Int→Bool→Int→List Int→Option spec_l15Inputs.R):∀(d q a n:Nat),d<q→a+d≤l.length→l.length≤10→(n+1)*2^d≤1048576→
    spec_l15Inputs.L1 (cl k) k l ((ms,()),()) is (j:Int) acc r0 q (a:Int) (n:Int) (d:Int)=r0 ((a+d:Nat):Int) (is&&decide (((vG n ((l.drop a).take d):Nat):Int)≤ms[j])) (IntKind.i64.wrap ((j:Int)+1)) (acc++[((vG n ((l.drop a).take d):Nat):Int)]):=by
  intro d
  induction d with
  | zero=>
    intro q a n hq h1 h2 h3;obtain⟨q,rfl⟩:∃m,q=m+1:=⟨q-1,by omega⟩
    simp only[spec_l15Inputs.L1,spec_l15Inputs.step1];rw[decide_eq_false (by omega),cond_false,apb (by rw[by2];simp only[List.length_cons,List.length_nil];omega),cond_true,idx_ok hj,Int.toNat_natCast,lgn hj];cases is<;>rfl
  | succ d ih=>
    intro q a n hq h1 h2 h3;obtain⟨q,rfl⟩:∃m,q=m+1:=⟨q-1,by omega⟩
    have hl:a<l.length:=by omega
    rw[Nat.pow_succ]at h3;have hn:=bN_le l[a];have hp:0<2^d:=Nat.pow_pos (by omega);have h4:(2*n+bN l[a]+1)*2^d≤1048576:=Nat.le_trans (Nat.mul_le_mul_right _ (show 2*n+bN l[a]+1≤(n+1)*2 by omega)) (by rw[Nat.mul_assoc,Nat.mul_comm 2];exact h3);have h5:n+1≤1048576:=Nat.le_trans (Nat.le_mul_of_pos_right _ (Nat.mul_pos hp (by omega))) h3;have:=ih q (a+1) (2*n+bN l[a]) (by omega) (by omega) h2 h4;have e:vG n ((l.drop a).take (d+1))=vG (2*n+bN l[a]) ((l.drop (a+1)).take d):=by
      rw[List.drop_eq_getElem_cons hl,List.take_succ_cons];rfl
    have eb:dbit l[a]=((bN l[a]:Nat):Int):=by cases l[a]<;>rfl
    simp only[spec_l15Inputs.L1,spec_l15Inputs.step1];rw[decide_eq_true (by omega),cond_true,dle0,cond_true,Int.toNat_natCast,lgn hl,Option.bind_some,hb,Option.bind_some];dsimp only;rw[eb,w64 (x:=(a:Int)+1) (by omega) (by omega),w64 (x:=2*(n:Int)) (by omega) (by omega),w64 (x:=2*(n:Int)+((bN l[a]:Nat):Int)) (by omega) (by omega),w64 (x:=((d+1:Nat):Int)-1) (by omega) (by omega)];rw[show(a:Int)+1=((a+1:Nat):Int) by omega,show 2*(n:Int)+((bN l[a]:Nat):Int)=((2*n+bN l[a]:Nat):Int) by omega,show((d+1:Nat):Int)-1=(d:Int) by omega,this,e,show a+1+d=a+(d+1) by omega]
section
variable {p:Pg}(hp:Hd p)
include hp
theorem l15In_ans {l:List Bool}(hl:l.length=wdS (mx p)):Ans n_spec_l15Inputs s_spec_l15Inputs (p,l,()) ((dec (mx p) l,bo (Under (mx p) (dec (mx p) l)),()),()):=by
  have hb:=hp.b;have hc:=wd10 hp;have hf:=mx_few hp;have hn:(mx p).length≤6:=by rw[mx_len];omega
  have hA:=maxes_ans hp;refine Gv.ans (Gv.of (fun k=>spec_l15Inputs.F_eq (cl k) k p l) ?_);unfold spec_l15Inputs.F spec_l15Inputs.Fm;rw[←ok_dec];generalize mx p=ms at*;refine Tq.ba hA ?_;have key:∀(d j a:Nat)(is:Bool)(acc:List Int),ms.length-j=d→a+wdS (ms.drop j)=l.length→acc.length+d≤6→Tq (d+1) (fun k q=>spec_l15Inputs.L0 (cl k) k ((ms,()),()) l q (a:Int) is (j:Int) acc) (· =((acc++dec (ms.drop j) (l.drop a),is&&okF (ms.drop j) (dec (ms.drop j) (l.drop a)),()),())):=by
    intro d
    induction d with
    | zero=>
      intro j a is acc hd h1 h2;refine Tq.succ ?_;show Tq _ (fun k q=>spec_l15Inputs.step0 (cl k) k ..) _
      unfold spec_l15Inputs.step0;rw[List.drop_of_length_le (by omega)];exact Tq.bf (dnlt (by dsimp only;omega)) (Tq.ret (by show _=((acc++[],is&&true,()),());rw[List.append_nil,Bool.and_true]))
    | succ d ih=>
      intro j a is acc hd h1 h2;have hj:j<ms.length:=by omega
      have hx:=hf _ (List.getElem_mem hj);have e2:=wd_bits ms[j];have e:wdS (ms.drop j)=wd ms[j]+wdS (ms.drop (j+1)):=by rw[List.drop_eq_getElem_cons hj];rfl
      rw[e]at h1;have e3:dec (ms.drop j) (l.drop a)=((vG 0 ((l.drop a).take (wd ms[j])):Nat):Int)::dec (ms.drop (j+1)) (l.drop (a+wd ms[j])):=by
        rw[List.drop_eq_getElem_cons hj,show l.drop (a+wd ms[j])=(l.drop a).drop (wd ms[j])from List.drop_drop.symm];rfl
      have e4:∀x:List Int,okF (ms.drop j) (((vG 0 ((l.drop a).take (wd ms[j])):Nat):Int)::x)=(decide (((vG 0 ((l.drop a).take (wd ms[j])):Nat):Int)≤ms[j])&&okF (ms.drop (j+1)) x):=fun x=>by
        rw[List.drop_eq_getElem_cons hj];rfl
      rw[e3,e4];refine Tq.succ ?_;show Tq _ (fun k q=>spec_l15Inputs.step0 (cl k) k ..) _
      unfold spec_l15Inputs.step0;refine Tq.bt (dlt hj) (Tq.bt (idx_ok hj) (Tq.some (lg hj) (Tq.ba (sBits_ans ms[j] (by omega)) ?_)));rw[←e2];have hp10:=dpow10 (show wd ms[j]≤10 by omega);obtain⟨N,hN⟩:=l5Bit_ev.and (Ev.ge 11);refine Tq.evEq ⟨N,fun k hk q _=>l15_in (hN k hk).1 l ms j hj is acc (by omega) _ (wd ms[j]) k a 0 (by have:=(hN k hk).2;omega) (by omega) (by omega) (by omega)⟩ ?_;rw[ws hj (by omega)];have:=ih (j+1) (a+wd ms[j]) (is&&decide (((vG 0 ((l.drop a).take (wd ms[j])):Nat):Int)≤ms[j])) (acc++[((vG 0 ((l.drop a).take (wd ms[j])):Nat):Int)]) (by omega) (by omega) (by simp;omega);rw[List.append_assoc,List.singleton_append,Bool.and_assoc]at this;exact this
  have:=key _ 0 0 true [] rfl (by rw[Nat.zero_add];exact hl.symm) (by rw[List.length_nil];omega);exact Tq.diag this
end
noncomputable def rY(any:Bool)(s:Sh)(k unit:Int)(o:Oc):Bool:=any||(bo (shp o=s)&&(decide (k<0)||((((o.1[k.toNat]?).getD 0).tdiv unit).tmod 2==1)))
theorem under_wi {p:Pg}{a:List Int}(h:Under (mx p) a):Wi p a:=by
  have hl:=h.1;rw[mx_len]at hl;refine⟨⟨by rw[List.length_take];omega,fun i _ h1 h2=>?_⟩,⟨by rw[List.length_drop];omega,fun i _ h1 h2=>?_⟩⟩
  . rw[List.getElem_take];have h3:=h.2 i (by rw[List.length_take]at h1;omega) (by rw[mx_len];omega);have h4:(mx p)[i]'(by rw[mx_len];omega)=p.2.1[i].1:=by
      unfold mx;rw[List.getElem_append_left (by rw[List.length_map];exact h2),List.getElem_map]
    rw[h4]at h3;exact h3
  . rw[List.length_drop]at h1;rw[List.getElem_drop];have h3:=h.2 (p.2.1.length+i) (by omega) (by rw[mx_len];omega);have h4:(mx p)[p.2.1.length+i]'(by rw[mx_len];omega)=p.2.2.1[i].1:=by
      unfold mx;rw[List.getElem_append_right (by rw[List.length_map];omega),List.getElem_map]
      congr 2
      rw[List.length_map];omega
    rw[h4]at h3;exact h3
section
variable {p:Pg}{t:Fs}(ht:Ok p t)
include ht
theorem sumAll_ans:Ans n_spec_l3AllBits s_spec_l3AllBits (p,()) ((((wdS (mx p):Nat):Int),()),()):=by
  have hp:=ht.hd;have hb:=hp.b;have h1:=wdS_sum p.2.1;have h2:=wdS_sum p.2.2.1;have e:((wdS (mx p):Nat):Int)=sumBits p.2.1+sumBits p.2.2.1:=by unfold mx;rw[wdS_app];omega
  rw[e];exact sAll_ans p (fun x hx=>by have:=low_few hp x hx;omega) (fun x hx=>by have:=sec_few hp x hx;omega) (by omega) (by omega)
theorem l15Make_ans(any:Bool)(s:Sh)(kk unit:Int)(hk:0≤s.1→kk<s.1)(hu:1≤unit∧unit≤256):Ans n_spec_l15Make s_spec_l15Make (p,any,s,kk,unit,()) ((mkDia (wdS (mx p)) (rT (mx p) fun a=>rY any s kk unit (oc p t a)),()),()):=by
  have hp :=ht.hd;have hc:=wd10 hp;have hw:=dpow10 hc;refine Gv.ans (Gv.of (fun k=>spec_l15Make.F_eq (cl k) k p any s kk unit) ?_);unfold spec_l15Make.F spec_l15Make.Fm;refine Tq.ba (sumAll_ans ht) ?_;have hS:=l13Size_ans (wdS (mx p)) hc;have key:∀(d j:Nat),2^wdS (mx p)-j=d→j≤2^wdS (mx p)→Tq (d+1) (fun k q=>spec_l15Make.L0 (cl k) k p any s kk unit ((((wdS (mx p):Nat):Int),()),()) q (j:Int) ((List.range j).map fun n=>bo (Under (mx p) (dN (mx p) n))&&rY any s kk unit (oc p t (dN (mx p) n)))) (· =((mkDia (wdS (mx p)) (rT (mx p) fun a=>rY any s kk unit (oc p t a)),()),())):=by
    intro d
    induction d with
    | zero=>
      intro j hd hj;obtain rfl:j=2^wdS (mx p):=by omega
      refine Tq.succ ?_;show Tq _ (fun k q=>spec_l15Make.step0 (cl k) k ..) _
      unfold spec_l15Make.step0;refine Tq.ba hS (Tq.bf (dnlt (Nat.le_refl _)) ?_);exact Tq.ba (l13Make_ans (wdS (mx p)) (rT (mx p) fun a=>rY any s kk unit (oc p t a)) hc (rT_len _ _)) (Tq.ret rfl)
    | succ d ih =>
      intro j hd hj;have hj1:j<2^wdS (mx p):=by omega
      have:=ih (j+1) (by omega) (by omega);rw[List.range_succ,List.map_append,List.map_singleton]at this;refine Tq.succ ?_;show Tq _ (fun k q=>spec_l15Make.step0 (cl k) k ..) _
      unfold spec_l15Make.step0;refine Tq.ba hS (Tq.bt (dlt hj1) (Tq.ba (l13Bits_ans (wdS (mx p)) j hc (by omega)) (Tq.ba (l15In_ans hp (bitsN_len _ _)) ?_)));have hb:∀z:Bool,decide ((((List.range j).map fun n=>bo (Under (mx p) (dN (mx p) n))&&rY any s kk unit (oc p t (dN (mx p) n))).length+[z].length)*ti4.bytes≤140737488355328)=true:=fun z=>apb (by rw[ti4b,List.length_map,List.length_range];simp only[List.length_cons,List.length_nil];omega)
      have ew:=ws hj1 (by omega);by_cases c:Under (mx p) (dN (mx p) j)
      . refine Tq.bt (bo_t c) ?_;cases any with
        | true=>
          refine Tq.bf rfl (Tq.bt (hb _) ?_);rw[ew];have e5:(bo (Under (mx p) (dN (mx p) j))&&rY true s kk unit (oc p t (dN (mx p) j)))=bo (Under (mx p) (dec (mx p) (bitsN (wdS (mx p)) j))):=by
            unfold rY;rw[Bool.true_or,Bool.and_true];rfl
          rw[e5]at this;exact this
        | false =>
          have ho:=oc_ok ht (under_wi c);refine Tq.bt rfl (Tq.ba (l6Of_ans ht (under_wi c)) (Tq.ba (sShape_ans _) ?_));have e:eqV ((Ty.int .i64).pair ((Ty.int .i64).pair ((Ty.int .i64).pair Ty.unit))) (shp (oc p t (dN (mx p) j))) (s.1,s.2.1,s.2.2.1,())=bo (shp (oc p t (dN (mx p) j))=s):=eqSh _ _;by_cases c2:shp (oc p t (dN (mx p) j))=s
          . refine Tq.bt (e.trans (bo_t c2)) ?_;by_cases c3:0≤kk
            . have hl:kk.toNat<(oc p t (dN (mx p) j)).1.length:=by
                rw[←c2]at hk;have hk:kk<((oc p t (dN (mx p) j)).1.length:Int):=hk (Int.natCast_nonneg _);omega
              have hv:=ho.vs _ (List.getElem_mem hl);refine Tq.bt (decide_eq_true c3) (Tq.bt (by dsimp only;exact Bool.and_eq_true_iff.2 ⟨decide_eq_true c3,decide_eq_true hl⟩) (Tq.some (lgn hl) (Tq.bf (decide_eq_false (by omega)) (Tq.bt (hb _) ?_))));have q0:=Int.tdiv_nonneg hv.1 (show 0≤unit by omega);have q1:=Int.tdiv_le_self unit hv.1;rw[ew,w64 (by omega) (by omega)];have e5:(bo (Under (mx p) (dN (mx p) j))&&rY false s kk unit (oc p t (dN (mx p) j)))=(((oc p t (dN (mx p) j)).1[kk.toNat].tdiv unit).tmod 2==1):=by
                unfold rY;rw[bo_t c,bo_t c2,decide_eq_false (by omega),List.getElem?_eq_getElem hl];rfl
              rw[e5]at this;exact this
            . refine Tq.bf (decide_eq_false c3) (Tq.bt (hb _) ?_);rw[ew];have e5:(bo (Under (mx p) (dN (mx p) j))&&rY false s kk unit (oc p t (dN (mx p) j)))=eqV ((Ty.int .i64).pair ((Ty.int .i64).pair ((Ty.int .i64).pair Ty.unit))) (shp (oc p t (dN (mx p) j))) (s.1,s.2.1,s.2.2.1,()):=by
                unfold rY;rw[bo_t c,bo_t c2,decide_eq_true (by omega),e,bo_t c2];rfl
              rw[e5]at this;exact this
          . refine Tq.bf (e.trans (bo_f c2)) (Tq.bt (hb _) ?_);rw[ew];have e5:(bo (Under (mx p) (dN (mx p) j))&&rY false s kk unit (oc p t (dN (mx p) j)))=eqV ((Ty.int .i64).pair ((Ty.int .i64).pair ((Ty.int .i64).pair Ty.unit))) (shp (oc p t (dN (mx p) j))) (s.1,s.2.1,s.2.2.1,()):=by
              unfold rY;rw[bo_t c,e,bo_f c2];rfl
            rw[e5]at this;exact this
      . refine Tq.bf (bo_f c) (Tq.bt (hb _) ?_);rw[ew];rw[bo_f c,Bool.false_and]at this;have e6:bo (Under (mx p) (dec (mx p) (bitsN (wdS (mx p)) j)))=false:=bo_f c;rw[e6];exact this
  exact Tq.diag (key _ 0 rfl (Nat.zero_le _))
end
end Go.Proofs.YtjgfofcgmcnblaaGreat.Pf
namespace Go.Proofs.YtjgfofcgmcnblaaGreat.Pf
open Go Go.Pv IntKind
abbrev YP_0:Type:=((Int×(Int×(Int×Unit)))×(Int×(Int×((Int×((List (Int×(Int×Unit)))×((List (Int×(Int×Unit)))×(Int×((List Int)×((List (Int×(Int×((List (Int×(Int×Unit)))×((List (Int×(Int×Unit)))×Unit)))))×Unit))))))×Unit))))
abbrev YP_1:Type:=((Int×((List (Int×(Int×Unit)))×((List (Int×(Int×Unit)))×(Int×((List Int)×((List (Int×(Int×((List (Int×(Int×Unit)))×((List (Int×(Int×Unit)))×Unit)))))×Unit)))))))
abbrev YP_2:Type:=(Int×((List (Int×(Int×Unit)))×((List (Int×(Int×Unit)))×(Int×((List Int)×((List (Int×(Int×((List (Int×(Int×Unit)))×((List (Int×(Int×Unit)))×Unit)))))×Unit))))))
abbrev YP_3:Type:=(((List Int×Int×Int×Unit)×(List Int×List (List Int)×Unit)×Unit)×Unit)
abbrev YP_4:Type:=(((Int×Int×List (Int×Int×Int×Unit)×Unit)×Unit)×Unit)
abbrev YP_5:Type:=((List Int×List Int×Unit)×Unit)
abbrev YP_6:Type:=((Int×(Int×(Int×Unit)))×Unit)
abbrev YP_7:Type:=((List Int)×(Int×(Int×Unit)))
abbrev YP_8:Type:=((List Bool×Unit)×Unit)
abbrev YP_9:Type:=(Int×(Int×(Int×Unit)))
abbrev YP_10:Type:=((Int)×((List Bool)))
abbrev YP_11:Type:=(Bool×Unit)
abbrev YP_12:Type:=(Int×Unit)
namespace impl_RangeDia_1
abbrev R:=((Bool×Unit)×Unit)
def Fm(call:Cl)(k:Nat)(a0:YP_7):Option R:=some ((true,()),())
def F(call:Cl)(k:Nat)(a0:YP_7):Option R:=Fm call k a0
theorem F_eq(call:Cl)(k:Nat)(a0:YP_7):bodyK E call n_impl_RangeDia_1 k s_impl_RangeDia_1 (a0,())=F call k a0:=by kernel_rfl
end impl_RangeDia_1
namespace impl_ShapeDia_1
abbrev R:=((Bool×Unit)×Unit)
def Fm(call:Cl)(k:Nat)(a0:YP_7)(a1:YP_9):Option R:=(call 101 s_impl_shapeOf (a0,())).bind fun(y0:(((Int×Int×Int×Unit)×Unit)×Unit))=>some ((eqV ((Ty.int .i64).pair ((Ty.int .i64).pair ((Ty.int .i64).pair Ty.unit))) y0.1.1 a1,()),())
def F(call:Cl)(k:Nat)(a0:YP_7)(a1:YP_9):Option R:=Fm call k a0 a1
theorem F_eq(call:Cl)(k:Nat)(a0:YP_7)(a1:YP_9):bodyK E call n_impl_ShapeDia_1 k s_impl_ShapeDia_1 (a0,a1,())=F call k a0 a1:=by kernel_rfl
end impl_ShapeDia_1
namespace impl_ValueDia_1
abbrev R:=((Bool×Unit)×Unit)
def Fm(call:Cl)(k:Nat)(a0:YP_7)(a1:YP_9)(a2:Int)(a3:Int)(a4:YP_2):Option R:=(call 101 s_impl_shapeOf (a0,())).bind fun(y0:(((Int×Int×Int×Unit)×Unit)×Unit))=>bif !eqV ((Ty.int .i64).pair ((Ty.int .i64).pair ((Ty.int .i64).pair Ty.unit))) y0.1.1 a1 then some ((false,()),())else bif decide (a2<0)then some ((false,()),())else bif decide (a2≥a1.1)then some ((false,()),())else bif decide (a3<0)then some ((false,()),())else bif decide (a3≥a4.1)then some ((false,()),())else bif decide (0≤a2)then(lget a0.1 a2.toNat).bind fun(y1:Int)=>bif decide (a3<0)then none else some ((bitsI .and .i64 (shrI .i64 y1 a3) 1==1,()),())else none
def F(call:Cl)(k:Nat)(a0:YP_7)(a1:YP_9)(a2:Int)(a3:Int)(a4:YP_2):Option R:=Fm call k a0 a1 a2 a3 a4
theorem F_eq(call:Cl)(k:Nat)(a0:YP_7)(a1:YP_9)(a2:Int)(a3:Int)(a4:YP_2):bodyK E call n_impl_ValueDia_1 k s_impl_ValueDia_1 (a0,a1,a2,a3,a4,())=F call k a0 a1 a2 a3 a4:=by kernel_rfl
end impl_ValueDia_1
namespace impl_diaWhere__impl_RangeDia_1
abbrev R:=(((Int×(Int×((List (Int×(Int×(Int×Unit))))×Unit)))×Unit)×Unit)
def S0(a0:YP_2)(v0_1:Int)(v0_2:(List Bool)):St:=⟨mkS 47 [(0,.v (.sptr tPg) (a0)),(1,.v (.clo 102 .unit) ()),(4,.p [500004] [] 0),(5,.ref [500005]),(6,.v tI v0_1)],[([500005],.list 4 .bool v0_2),([500004,5,1,1,0],.list 168 (.pair tI tTm) ([])),([500004],.box (.pr (.v tI (0)) (.pr (.v tI (0)) (.pr (.ref [500004,5,1,1,0]) (.v .unit ())))))]⟩
def step0(call:Cl)(k:Nat)(a0:YP_2)(r0:(Int)→((List Bool))→Option R)(v0_1:Int)(v0_2:(List Bool)):Option R:=(call 160 s_impl_manyInputs (a0,())).bind fun(y1:YP_12×Unit)=>bif decide (v0_1<y1.1.1)then(call 161 s_impl_inputOf (a0,v0_1,())).bind fun(y2:YP_5)=>(call 162 s_impl_ran (a0,y2.1.1,y2.1.2.1,())).bind fun(y3:YP_3)=>(call 163 s_impl_bitsAt (a0,y2.1.1,y2.1.2.1,())).bind fun(y4:YP_8)=>(call 97 s_impl_placeOf (y4.1.1,())).bind fun(y5:YP_12×Unit)=>(call 102 s_impl_RangeDia_1 (y3.1.1,())).bind fun(y6:YP_11×Unit)=>bif decide (0≤y5.1.1)&&decide (Int.toNat y5.1.1<v0_2.length)then(lget v0_2 (Int.toNat y5.1.1)).bind fun(y7:Bool)=>r0 (i64.wrap (v0_1+1)) (v0_2.set (Int.toNat y5.1.1) y6.1.1)else none else(call 126 s_impl_manyBits (a0,())).bind fun(y8:YP_12×Unit)=>(call 157 s_impl_diaOf (y8.1.1,v0_2,())).bind fun(y9:YP_4)=>some ((y9.1.1,()),())
def L0(call:Cl)(k:Nat)(a0:YP_2):Nat→(Int)→((List Bool))→Option R|0,_,_=>none|n+1,v0_1,v0_2=>step0 call k a0 (L0 call k a0 n) v0_1 v0_2
def Fm(call:Cl)(k:Nat)(l0:YP_1→(Int)→((List Bool))→Option R)(a0:YP_2)(a1:Unit):Option R:=(call 126 s_impl_manyBits (a0,())).bind fun(y0:YP_12×Unit)=>bif decide (y0.1.1<0)then none else bif decide (shlI .i64 1 y0.1.1=shlI .i64 1 y0.1.1)&&decide (0≤shlI .i64 1 y0.1.1)&&decide (shlI .i64 1 y0.1.1*(↑ti4.bytes:Int)≤281474976710656)then l0 a0 0 (List.replicate (shlI .i64 1 y0.1.1).toNat false)else none
def F(call:Cl)(k:Nat)(a0:YP_2)(a1:Unit):Option R:=Fm call k (fun a0_ v0_1_ v0_2_=>L0 call k a0_ k v0_1_ v0_2_) a0 a1
theorem L0_eq(call:Cl)(k:Nat)(J:Nat→St→Option R)(a0:YP_2)(a1:Unit):∀(n:Nat)(x:YP_10),siteI E call n_impl_diaWhere__impl_RangeDia_1 k s_impl_diaWhere__impl_RangeDia_1 (a0,a1,()) J 0 n (S0 a0 x.1 x.2)=L0 call k a0 n x.1 x.2:=by
  refine loop_eq (s:=s_impl_diaWhere__impl_RangeDia_1) (fun x=>S0 a0 x.1 x.2) (fun n x=>L0 call k a0 n x.1 x.2) (fun r x=>step0 call k a0 (fun v0_1 v0_2=>r (v0_1,v0_2)) x.1 x.2) (fun _=>rfl) (fun _ _=>rfl) fun J0 x=>?_
  kernel_rfl
theorem F_eq(call:Cl)(k:Nat)(a0:YP_2)(a1:Unit):bodyK E call n_impl_diaWhere__impl_RangeDia_1 k s_impl_diaWhere__impl_RangeDia_1 (a0,a1,())=F call k a0 a1:=by
  exact Eq.trans (b:=Fm call k (fun a0 v0_1_ v0_2_=>siteI E call n_impl_diaWhere__impl_RangeDia_1 k s_impl_diaWhere__impl_RangeDia_1 (a0,a1,()) (fun _ _=>none) 0 k (S0 a0 v0_1_ v0_2_)) a0 a1) (by kernel_rfl) (congrArg (fun l=>Fm call k l a0 a1) (funext fun a0=>funext fun v0_1_=>funext fun v0_2_=>L0_eq call k (fun _ _=>none) a0 a1 k (v0_1_,v0_2_)))
end impl_diaWhere__impl_RangeDia_1
namespace impl_diaWhere__impl_ShapeDia_1
abbrev R:=(((Int×(Int×((List (Int×(Int×(Int×Unit))))×Unit)))×Unit)×Unit)
def S0(a0:YP_2)(a1:YP_6)(v0_2:Int)(v0_3:(List Bool)):St:=⟨mkS 47 [(0,.v (.sptr tPg) (a0)),(1,.v (.clo 100 (.pair (.sptr (.pair tI tTm)) .unit)) ((a1.1),())),(4,.p [500004] [] 0),(5,.ref [500005]),(6,.v tI v0_2)],[([500005],.list 4 .bool v0_3),([500004,5,1,1,0],.list 168 (.pair tI tTm) ([])),([500004],.box (.pr (.v tI (0)) (.pr (.v tI (0)) (.pr (.ref [500004,5,1,1,0]) (.v .unit ())))))]⟩
def step0(call:Cl)(k:Nat)(a0:YP_2)(a1:YP_6)(r0:(Int)→((List Bool))→Option R)(v0_2:Int)(v0_3:(List Bool)):Option R:=(call 160 s_impl_manyInputs (a0,())).bind fun(y1:YP_12×Unit)=>bif decide (v0_2<y1.1.1)then(call 161 s_impl_inputOf (a0,v0_2,())).bind fun(y2:YP_5)=>(call 162 s_impl_ran (a0,y2.1.1,y2.1.2.1,())).bind fun(y3:YP_3)=>(call 163 s_impl_bitsAt (a0,y2.1.1,y2.1.2.1,())).bind fun(y4:YP_8)=>(call 97 s_impl_placeOf (y4.1.1,())).bind fun(y5:YP_12×Unit)=>(call 100 s_impl_ShapeDia_1 (y3.1.1,a1.1,())).bind fun(y6:YP_11×Unit)=>bif decide (0≤y5.1.1)&&decide (Int.toNat y5.1.1<v0_3.length)then(lget v0_3 (Int.toNat y5.1.1)).bind fun(y7:Bool)=>r0 (i64.wrap (v0_2+1)) (v0_3.set (Int.toNat y5.1.1) y6.1.1)else none else(call 126 s_impl_manyBits (a0,())).bind fun(y8:YP_12×Unit)=>(call 157 s_impl_diaOf (y8.1.1,v0_3,())).bind fun(y9:YP_4)=>some ((y9.1.1,()),())
def L0(call:Cl)(k:Nat)(a0:YP_2)(a1:YP_6):Nat→(Int)→((List Bool))→Option R|0,_,_=>none|n+1,v0_2,v0_3=>step0 call k a0 a1 (L0 call k a0 a1 n) v0_2 v0_3
def Fm(call:Cl)(k:Nat)(l0:YP_1→(YP_6)→(Int)→((List Bool))→Option R)(a0:YP_2)(a1:YP_6):Option R:=(call 126 s_impl_manyBits (a0,())).bind fun(y0:YP_12×Unit)=>bif decide (y0.1.1<0)then none else bif decide (shlI .i64 1 y0.1.1=shlI .i64 1 y0.1.1)&&decide (0≤shlI .i64 1 y0.1.1)&&decide (shlI .i64 1 y0.1.1*(↑ti4.bytes:Int)≤281474976710656)then l0 a0 a1 0 (List.replicate (shlI .i64 1 y0.1.1).toNat false)else none
def F(call:Cl)(k:Nat)(a0:YP_2)(a1:YP_6):Option R:=Fm call k (fun a0_ a1_ v0_2_ v0_3_=>L0 call k a0_ a1_ k v0_2_ v0_3_) a0 a1
theorem L0_eq(call:Cl)(k:Nat)(J:Nat→St→Option R)(a0:YP_2)(a1:YP_6):∀(n:Nat)(x:YP_10),siteI E call n_impl_diaWhere__impl_ShapeDia_1 k s_impl_diaWhere__impl_ShapeDia_1 (a0,a1,()) J 0 n (S0 a0 a1 x.1 x.2)=L0 call k a0 a1 n x.1 x.2:=by
  refine loop_eq (s:=s_impl_diaWhere__impl_ShapeDia_1) (fun x=>S0 a0 a1 x.1 x.2) (fun n x=>L0 call k a0 a1 n x.1 x.2) (fun r x=>step0 call k a0 a1 (fun v0_2 v0_3=>r (v0_2,v0_3)) x.1 x.2) (fun _=>rfl) (fun _ _=>rfl) fun J0 x=>?_
  kernel_rfl
theorem F_eq(call:Cl)(k:Nat)(a0:YP_2)(a1:YP_6):bodyK E call n_impl_diaWhere__impl_ShapeDia_1 k s_impl_diaWhere__impl_ShapeDia_1 (a0,a1,())=F call k a0 a1:=by
  exact Eq.trans (b:=Fm call k (fun a0 a1 v0_2_ v0_3_=>siteI E call n_impl_diaWhere__impl_ShapeDia_1 k s_impl_diaWhere__impl_ShapeDia_1 (a0,a1,()) (fun _ _=>none) 0 k (S0 a0 a1 v0_2_ v0_3_)) a0 a1) (by kernel_rfl) (congrArg (fun l=>Fm call k l a0 a1) (funext fun a0=>funext fun a1=>funext fun v0_2_=>funext fun v0_3_=>L0_eq call k (fun _ _=>none) a0 a1 k (v0_2_,v0_3_)))
end impl_diaWhere__impl_ShapeDia_1
namespace impl_diaWhere__impl_ValueDia_1
abbrev R:=(((Int×(Int×((List (Int×(Int×(Int×Unit))))×Unit)))×Unit)×Unit)
def S0(a0:YP_2)(a1:YP_0)(v0_5:Int)(v0_6:(List Bool)):St:=⟨mkS 47 [(0,.v (.sptr tPg) (a0)),(1,.v (.clo 103 (.pair (.sptr (.pair tI tTm)) (.pair (.sptr tI) (.pair (.sptr tI) (.pair (.sptr tPg) .unit))))) ((a1.1),((a1.2.1),((a1.2.2.1),((a1.2.2.2.1),()))))),(4,.p [500004] [] 0),(5,.ref [500005]),(6,.v tI v0_5)],[([500005],.list 4 .bool v0_6),([500004,5,1,1,0],.list 168 (.pair tI tTm) ([])),([500004],.box (.pr (.v tI (0)) (.pr (.v tI (0)) (.pr (.ref [500004,5,1,1,0]) (.v .unit ())))))]⟩
def step0(call:Cl)(k:Nat)(a0:YP_2)(a1:YP_0)(r0:(Int)→((List Bool))→Option R)(v0_5:Int)(v0_6:(List Bool)):Option R:=(call 160 s_impl_manyInputs (a0,())).bind fun(y1:YP_12×Unit)=>bif decide (v0_5<y1.1.1)then(call 161 s_impl_inputOf (a0,v0_5,())).bind fun(y2:YP_5)=>(call 162 s_impl_ran (a0,y2.1.1,y2.1.2.1,())).bind fun(y3:YP_3)=>(call 163 s_impl_bitsAt (a0,y2.1.1,y2.1.2.1,())).bind fun(y4:YP_8)=>(call 97 s_impl_placeOf (y4.1.1,())).bind fun(y5:YP_12×Unit)=>(call 103 s_impl_ValueDia_1 (y3.1.1,a1.1,a1.2.1,a1.2.2.1,a1.2.2.2.1,())).bind fun(y6:YP_11×Unit)=>bif decide (0≤y5.1.1)&&decide (Int.toNat y5.1.1<v0_6.length)then(lget v0_6 (Int.toNat y5.1.1)).bind fun(y7:Bool)=>r0 (i64.wrap (v0_5+1)) (v0_6.set (Int.toNat y5.1.1) y6.1.1)else none else(call 126 s_impl_manyBits (a0,())).bind fun(y8:YP_12×Unit)=>(call 157 s_impl_diaOf (y8.1.1,v0_6,())).bind fun(y9:YP_4)=>some ((y9.1.1,()),())
def L0(call:Cl)(k:Nat)(a0:YP_2)(a1:YP_0):Nat→(Int)→((List Bool))→Option R|0,_,_=>none|n+1,v0_5,v0_6=>step0 call k a0 a1 (L0 call k a0 a1 n) v0_5 v0_6
def Fm(call:Cl)(k:Nat)(l0:YP_1→(YP_0)→(Int)→((List Bool))→Option R)(a0:YP_2)(a1:YP_0):Option R:=(call 126 s_impl_manyBits (a0,())).bind fun(y0:YP_12×Unit)=>bif decide (y0.1.1<0)then none else bif decide (shlI .i64 1 y0.1.1=shlI .i64 1 y0.1.1)&&decide (0≤shlI .i64 1 y0.1.1)&&decide (shlI .i64 1 y0.1.1*(↑ti4.bytes:Int)≤281474976710656)then l0 a0 a1 0 (List.replicate (shlI .i64 1 y0.1.1).toNat false)else none
def F(call:Cl)(k:Nat)(a0:YP_2)(a1:YP_0):Option R:=Fm call k (fun a0_ a1_ v0_5_ v0_6_=>L0 call k a0_ a1_ k v0_5_ v0_6_) a0 a1
theorem L0_eq(call:Cl)(k:Nat)(J:Nat→St→Option R)(a0:YP_2)(a1:YP_0):∀(n:Nat)(x:YP_10),siteI E call n_impl_diaWhere__impl_ValueDia_1 k s_impl_diaWhere__impl_ValueDia_1 (a0,a1,()) J 0 n (S0 a0 a1 x.1 x.2)=L0 call k a0 a1 n x.1 x.2:=by
  refine loop_eq (s:=s_impl_diaWhere__impl_ValueDia_1) (fun x=>S0 a0 a1 x.1 x.2) (fun n x=>L0 call k a0 a1 n x.1 x.2) (fun r x=>step0 call k a0 a1 (fun v0_5 v0_6=>r (v0_5,v0_6)) x.1 x.2) (fun _=>rfl) (fun _ _=>rfl) fun J0 x=>?_
  kernel_rfl
theorem F_eq(call:Cl)(k:Nat)(a0:YP_2)(a1:YP_0):bodyK E call n_impl_diaWhere__impl_ValueDia_1 k s_impl_diaWhere__impl_ValueDia_1 (a0,a1,())=F call k a0 a1:=by
  exact Eq.trans (b:=Fm call k (fun a0 a1 v0_5_ v0_6_=>siteI E call n_impl_diaWhere__impl_ValueDia_1 k s_impl_diaWhere__impl_ValueDia_1 (a0,a1,()) (fun _ _=>none) 0 k (S0 a0 a1 v0_5_ v0_6_)) a0 a1) (by kernel_rfl) (congrArg (fun l=>Fm call k l a0 a1) (funext fun a0=>funext fun a1=>funext fun v0_5_=>funext fun v0_6_=>L0_eq call k (fun _ _=>none) a0 a1 k (v0_5_,v0_6_)))
end impl_diaWhere__impl_ValueDia_1
namespace impl_RangeDia
abbrev R:=(((Int×(Int×((List (Int×(Int×(Int×Unit))))×Unit)))×Unit)×Unit)
def Fm(call:Cl)(k:Nat)(a0:YP_2):Option R:=(call 98 s_impl_ProgOk (a0,())).bind fun(y0:YP_11×Unit)=>bif !y0.1.1 then some (((0,0,[],()),()),())else(call 10300099 s_impl_diaWhere__impl_RangeDia_1 (a0,(),())).bind fun(y1:YP_4)=>some ((y1.1.1,()),())
def F(call:Cl)(k:Nat)(a0:YP_2):Option R:=Fm call k a0
theorem F_eq(call:Cl)(k:Nat)(a0:YP_2):bodyK E call n_impl_RangeDia k s_impl_RangeDia (a0,())=F call k a0:=by kernel_rfl
end impl_RangeDia
namespace impl_ShapeDia
abbrev R:=(((Int×(Int×((List (Int×(Int×(Int×Unit))))×Unit)))×Unit)×Unit)
def Fm(call:Cl)(k:Nat)(a0:YP_2)(a1:YP_9):Option R:=(call 98 s_impl_ProgOk (a0,())).bind fun(y0:YP_11×Unit)=>bif !y0.1.1 then some (((0,0,[],()),()),())else(call 10100099 s_impl_diaWhere__impl_ShapeDia_1 (a0,(a1,()),())).bind fun(y1:YP_4)=>some ((y1.1.1,()),())
def F(call:Cl)(k:Nat)(a0:YP_2)(a1:YP_9):Option R:=Fm call k a0 a1
theorem F_eq(call:Cl)(k:Nat)(a0:YP_2)(a1:YP_9):bodyK E call n_impl_ShapeDia k s_impl_ShapeDia (a0,a1,())=F call k a0 a1:=by kernel_rfl
end impl_ShapeDia
namespace impl_ValueDia
abbrev R:=(((Int×(Int×((List (Int×(Int×(Int×Unit))))×Unit)))×Unit)×Unit)
def Fm(call:Cl)(k:Nat)(a0:YP_2)(a1:YP_9)(a2:Int)(a3:Int):Option R:=(call 98 s_impl_ProgOk (a0,())).bind fun(y0:YP_11×Unit)=>bif !y0.1.1 then some (((0,0,[],()),()),())else(call 10400099 s_impl_diaWhere__impl_ValueDia_1 (a0,(a1,a2,a3,a0,()),())).bind fun(y1:YP_4)=>some ((y1.1.1,()),())
def F(call:Cl)(k:Nat)(a0:YP_2)(a1:YP_9)(a2:Int)(a3:Int):Option R:=Fm call k a0 a1 a2 a3
theorem F_eq(call:Cl)(k:Nat)(a0:YP_2)(a1:YP_9)(a2:Int)(a3:Int):bodyK E call n_impl_ValueDia k s_impl_ValueDia (a0,a1,a2,a3,())=F call k a0 a1 a2 a3:=by kernel_rfl
end impl_ValueDia
end Go.Proofs.YtjgfofcgmcnblaaGreat.Pf
namespace Go.Proofs.YtjgfofcgmcnblaaGreat.Pf
open Go Go.Pv
theorem rangeY_ans(o:Oc):Ans n_impl_RangeDia_1 s_impl_RangeDia_1 (o,()) ((true,()),()):=
  Gv.ans (Gv.of (fun k=>impl_RangeDia_1.F_eq (cl k) k o) (Tq.ret rfl))
theorem shapeY_ans(o:Oc)(s:Sh):Ans n_impl_ShapeDia_1 s_impl_ShapeDia_1 (o,s,()) ((bo (shp o=s),()),()):=by
  refine Gv.ans (Gv.of (fun k=>impl_ShapeDia_1.F_eq (cl k) k o s) ?_);unfold impl_ShapeDia_1.F impl_ShapeDia_1.Fm;exact Tq.ba (iShape_ans o) (Tq.ret (by show((eqV shT (shp o) s,()),())=_;rw[eqSh]))
noncomputable def vY(w:Int)(s:Sh)(kk b:Int)(o:Oc):Bool:=bo (shp o=s∧(0≤kk∧kk<s.1)∧0≤b∧b<w)&&((o.1[kk.toNat]?).getD 0).toNat.testBit b.toNat
theorem valueY_ans {o:Oc}(ho:OcOk o)(s:Sh)(kk b:Int){p:Pg}(hw:p.1≤8):Ans n_impl_ValueDia_1 s_impl_ValueDia_1 (o,s,kk,b,p,()) ((vY p.1 s kk b o,()),()):=by
  refine Gv.ans (Gv.of (fun k=>impl_ValueDia_1.F_eq (cl k) k o s kk b p) ?_);unfold impl_ValueDia_1.F impl_ValueDia_1.Fm;refine Tq.ba (iShape_ans o) ?_;have no:¬(shp o=s∧(0≤kk∧kk<s.1)∧0≤b∧b<p.1)→vY p.1 s kk b o=false:=fun h=>by unfold vY;rw[bo_f h,Bool.false_and]
  by_cases c1:shp o=s
  . refine Tq.bf (by show(!eqV shT (shp o) s)=false;rw[eqSh,bo_t c1];rfl) ?_;by_cases c2:kk<0
    . rw[no fun h=>by omega];exact Tq.bt (decide_eq_true c2) (Tq.ret rfl)
    refine Tq.bf (decide_eq_false c2) ?_;by_cases c3:kk≥s.1
    . rw[no fun h=>by omega];exact Tq.bt (decide_eq_true c3) (Tq.ret rfl)
    refine Tq.bf (decide_eq_false c3) ?_;by_cases c4:b<0
    . rw[no fun h=>by omega];exact Tq.bt (decide_eq_true c4) (Tq.ret rfl)
    refine Tq.bf (decide_eq_false c4) ?_;by_cases c5:b≥p.1
    . rw[no fun h=>by omega];exact Tq.bt (decide_eq_true c5) (Tq.ret rfl)
    refine Tq.bf (decide_eq_false c5) ?_;have hl:kk.toNat<o.1.length:=by
      rw[←c1]at c3;have c3:¬kk≥(o.1.length:Int):=c3;omega
    have hv:=ho.vs _ (List.getElem_mem hl);refine Tq.bt (decide_eq_true (by omega)) (Tq.some (lgn hl) (Tq.bf (decide_eq_false c4) (Tq.ret ?_)));unfold vY;rw[bo_t ⟨c1,by omega,by omega⟩,Bool.true_and,List.getElem?_eq_getElem hl,Option.getD_some];have h1:=shr_bit (n:=o.1[kk.toNat].toNat) (j:=b.toNat) (by omega);rw[Int.toNat_of_nonneg hv.1,Int.toNat_of_nonneg (by omega)]at h1;rw[h1]
  . rw[no fun h=>c1 h.1];exact Tq.bt (by show(!eqV shT (shp o) s)=true;rw[eqSh,bo_f c1];rfl) (Tq.ret rfl)
section
variable {p:Pg}{t:Fs}(ht:Ok p t)
include ht
theorem rangeWhere_ans:Ans n_impl_diaWhere__impl_RangeDia_1 s_impl_diaWhere__impl_RangeDia_1 (p,(),()) ((mkDia (wdS (mx p)) (rT (mx p) fun a=>(true:Bool)),()),()):=by
  have hp:=ht.hd;have hc:=wd10 hp;have hw:=dpow10 hc;obtain⟨hN,eN⟩:=cN_bd ht;have hM:=manyBits_ans hp;refine Gv.ans (Gv.of (fun k=>impl_diaWhere__impl_RangeDia_1.F_eq (cl k) k p ()) ?_);unfold impl_diaWhere__impl_RangeDia_1.F impl_diaWhere__impl_RangeDia_1.Fm;refine Tq.ba hM (Tq.bf (decide_eq_false (by dsimp only;omega)) ?_);rw[dshl1 hc];refine Tq.bt (mk_ok (by rw[ti4b];omega)) ?_;rw[Int.toNat_natCast,←iT_zero (mx_few hp) (fun a=>(true:Bool))];have key:∀(d j:Nat),cN p-j=d→j≤cN p→Tq (d+1) (fun k q=>impl_diaWhere__impl_RangeDia_1.L0 (cl k) k p q (j:Int) (iT (mx p) (fun a=>(true:Bool)) j)) (· =((mkDia (wdS (mx p)) (rT (mx p) fun a=>(true:Bool)),()),())):=by
    intro d
    induction d with
    | zero=>
      intro j hd hj;obtain rfl:j=cN p:=by omega
      refine Tq.succ ?_;show Tq _ (fun k q=>impl_diaWhere__impl_RangeDia_1.step0 (cl k) k ..) _
      unfold impl_diaWhere__impl_RangeDia_1.step0;have e:iT (mx p) (fun a=>(true:Bool)) (cN p)=rT (mx p) fun a=>(true:Bool):=iT_last (mx_few hp) _
      rw[e];exact Tq.ba (many_ans hp) (Tq.bf (decide_eq_false (by dsimp only;omega)) (Tq.ba hM (Tq.ba (diaOf_ans (wdS (mx p)) _ hc (rT_len _ _)) (Tq.ret rfl))))
    | succ d ih=>
      intro j hd hj;have ej:(inA p j).take p.2.1.length++(inA p j).drop p.2.1.length=inA p j:=List.take_append_drop _ _;have hj1:(j:Int)<cntF (mx p):=by omega
      refine Tq.succ ?_;show Tq _ (fun k q=>impl_diaWhere__impl_RangeDia_1.step0 (cl k) k ..) _
      unfold impl_diaWhere__impl_RangeDia_1.step0;refine Tq.ba (many_ans hp) (Tq.bt (decide_eq_true (by dsimp only;omega)) (Tq.ba (inputOf_ans ht (n:=j) (by omega)) ?_));refine Tq.bind (ran_ans ht (wi_in ht j).1 (wi_in ht j).2).tq fun(y:(Oc×(ET×Unit))×Unit) hy=>?_
      have hB:=bitsAt_ans hp (l:=(inA p j).take p.2.1.length) (s:=(inA p j).drop p.2.1.length) (by rw[ej];exact at_under (mx_few hp) j);rw[ej]at hB hy;have hpl:=pl_lt (mx p) j;have hlt:pl (mx p) j<(iT (mx p) (fun a=>(true:Bool)) j).length:=by rw[iT_len];exact hpl
      have hP:Ans n_impl_placeOf s_impl_placeOf (enc (mx p) (inA p j),()) ((((pl (mx p) j:Nat):Int),()),()):=placeOf_ans (by have:=enc_len (at_len (mx p) (j:Int));unfold inA;omega);refine Tq.ba hB (Tq.ba hP ?_);have ho:=oc_ok ht (inA_wi ht j);rw[←hy]at ho;refine Tq.ba (rangeY_ans y.1.1) ?_
      try dsimp only
      refine Tq.bt (by rw[dle0,Int.toNat_natCast];exact decide_eq_true hlt) (Tq.some (by rw[Int.toNat_natCast];exact lgn hlt) ?_);rw[Int.toNat_natCast,ws (n:=cN p) (by omega) (by omega)];have:=ih (j+1) (by omega) (by omega);rw[←iT_step (mx_few hp) _ hj1]at this
      first|(rw[hy];exact this)|exact this
  exact Tq.diag (key _ 0 rfl (Nat.zero_le _))
theorem shapeWhere_ans(s:Sh):Ans n_impl_diaWhere__impl_ShapeDia_1 s_impl_diaWhere__impl_ShapeDia_1 (p,(s,()),()) ((mkDia (wdS (mx p)) (rT (mx p) fun a=>bo (shp (oc p t a)=s)),()),()):=by
  have hp:=ht.hd;have hc:=wd10 hp;have hw:=dpow10 hc;obtain⟨hN,eN⟩:=cN_bd ht;have hM:=manyBits_ans hp;refine Gv.ans (Gv.of (fun k=>impl_diaWhere__impl_ShapeDia_1.F_eq (cl k) k p (s,())) ?_);unfold impl_diaWhere__impl_ShapeDia_1.F impl_diaWhere__impl_ShapeDia_1.Fm;refine Tq.ba hM (Tq.bf (decide_eq_false (by dsimp only;omega)) ?_);rw[dshl1 hc];refine Tq.bt (mk_ok (by rw[ti4b];omega)) ?_;rw[Int.toNat_natCast,←iT_zero (mx_few hp) (fun a=>bo (shp (oc p t a)=s))];have key:∀(d j:Nat),cN p-j=d→j≤cN p→Tq (d+1) (fun k q=>impl_diaWhere__impl_ShapeDia_1.L0 (cl k) k p (s,()) q (j:Int) (iT (mx p) (fun a=>bo (shp (oc p t a)=s)) j)) (· =((mkDia (wdS (mx p)) (rT (mx p) fun a=>bo (shp (oc p t a)=s)),()),())):=by
    intro d
    induction d with
    | zero=>
      intro j hd hj;obtain rfl:j=cN p:=by omega
      refine Tq.succ ?_;show Tq _ (fun k q=>impl_diaWhere__impl_ShapeDia_1.step0 (cl k) k ..) _
      unfold impl_diaWhere__impl_ShapeDia_1.step0;have e:iT (mx p) (fun a=>bo (shp (oc p t a)=s)) (cN p)=rT (mx p) fun a=>bo (shp (oc p t a)=s):=iT_last (mx_few hp) _
      rw[e];exact Tq.ba (many_ans hp) (Tq.bf (decide_eq_false (by dsimp only;omega)) (Tq.ba hM (Tq.ba (diaOf_ans (wdS (mx p)) _ hc (rT_len _ _)) (Tq.ret rfl))))
    | succ d ih=>
      intro j hd hj;have ej:(inA p j).take p.2.1.length++(inA p j).drop p.2.1.length=inA p j:=List.take_append_drop _ _;have hj1:(j:Int)<cntF (mx p):=by omega
      refine Tq.succ ?_;show Tq _ (fun k q=>impl_diaWhere__impl_ShapeDia_1.step0 (cl k) k ..) _
      unfold impl_diaWhere__impl_ShapeDia_1.step0;refine Tq.ba (many_ans hp) (Tq.bt (decide_eq_true (by dsimp only;omega)) (Tq.ba (inputOf_ans ht (n:=j) (by omega)) ?_));refine Tq.bind (ran_ans ht (wi_in ht j).1 (wi_in ht j).2).tq fun(y:(Oc×(ET×Unit))×Unit) hy=>?_
      have hB:=bitsAt_ans hp (l:=(inA p j).take p.2.1.length) (s:=(inA p j).drop p.2.1.length) (by rw[ej];exact at_under (mx_few hp) j);rw[ej]at hB hy;have hpl:=pl_lt (mx p) j;have hlt:pl (mx p) j<(iT (mx p) (fun a=>bo (shp (oc p t a)=s)) j).length:=by rw[iT_len];exact hpl
      have hP:Ans n_impl_placeOf s_impl_placeOf (enc (mx p) (inA p j),()) ((((pl (mx p) j:Nat):Int),()),()):=placeOf_ans (by have:=enc_len (at_len (mx p) (j:Int));unfold inA;omega);refine Tq.ba hB (Tq.ba hP ?_);have ho:=oc_ok ht (inA_wi ht j);rw[←hy]at ho;refine Tq.ba (shapeY_ans y.1.1 s) ?_
      try dsimp only
      refine Tq.bt (by rw[dle0,Int.toNat_natCast];exact decide_eq_true hlt) (Tq.some (by rw[Int.toNat_natCast];exact lgn hlt) ?_);rw[Int.toNat_natCast,ws (n:=cN p) (by omega) (by omega)];have:=ih (j+1) (by omega) (by omega);rw[←iT_step (mx_few hp) _ hj1]at this
      first|(rw[hy];exact this)|exact this
  exact Tq.diag (key _ 0 rfl (Nat.zero_le _))
theorem valueWhere_ans(s:Sh)(kk b:Int):Ans n_impl_diaWhere__impl_ValueDia_1 s_impl_diaWhere__impl_ValueDia_1 (p,(s,kk,b,p,()),()) ((mkDia (wdS (mx p)) (rT (mx p) fun a=>vY p.1 s kk b (oc p t a)),()),()):=by
  have hp:=ht.hd;have hc:=wd10 hp;have hw:=dpow10 hc;obtain⟨hN,eN⟩:=cN_bd ht;have hM:=manyBits_ans hp;refine Gv.ans (Gv.of (fun k=>impl_diaWhere__impl_ValueDia_1.F_eq (cl k) k p (s,kk,b,p,())) ?_);unfold impl_diaWhere__impl_ValueDia_1.F impl_diaWhere__impl_ValueDia_1.Fm;refine Tq.ba hM (Tq.bf (decide_eq_false (by dsimp only;omega)) ?_);rw[dshl1 hc];refine Tq.bt (mk_ok (by rw[ti4b];omega)) ?_;rw[Int.toNat_natCast,←iT_zero (mx_few hp) (fun a=>vY p.1 s kk b (oc p t a))];have key:∀(d j:Nat),cN p-j=d→j≤cN p→Tq (d+1) (fun k q=>impl_diaWhere__impl_ValueDia_1.L0 (cl k) k p (s,kk,b,p,()) q (j:Int) (iT (mx p) (fun a=>vY p.1 s kk b (oc p t a)) j)) (· =((mkDia (wdS (mx p)) (rT (mx p) fun a=>vY p.1 s kk b (oc p t a)),()),())):=by
    intro d
    induction d with
    | zero=>
      intro j hd hj;obtain rfl:j=cN p:=by omega
      refine Tq.succ ?_;show Tq _ (fun k q=>impl_diaWhere__impl_ValueDia_1.step0 (cl k) k ..) _
      unfold impl_diaWhere__impl_ValueDia_1.step0;have e:iT (mx p) (fun a=>vY p.1 s kk b (oc p t a)) (cN p)=rT (mx p) fun a=>vY p.1 s kk b (oc p t a):=iT_last (mx_few hp) _
      rw[e];exact Tq.ba (many_ans hp) (Tq.bf (decide_eq_false (by dsimp only;omega)) (Tq.ba hM (Tq.ba (diaOf_ans (wdS (mx p)) _ hc (rT_len _ _)) (Tq.ret rfl))))
    | succ d ih=>
      intro j hd hj;have ej:(inA p j).take p.2.1.length++(inA p j).drop p.2.1.length=inA p j:=List.take_append_drop _ _;have hj1:(j:Int)<cntF (mx p):=by omega
      refine Tq.succ ?_;show Tq _ (fun k q=>impl_diaWhere__impl_ValueDia_1.step0 (cl k) k ..) _
      unfold impl_diaWhere__impl_ValueDia_1.step0;refine Tq.ba (many_ans hp) (Tq.bt (decide_eq_true (by dsimp only;omega)) (Tq.ba (inputOf_ans ht (n:=j) (by omega)) ?_));refine Tq.bind (ran_ans ht (wi_in ht j).1 (wi_in ht j).2).tq fun(y:(Oc×(ET×Unit))×Unit) hy=>?_
      have hB:=bitsAt_ans hp (l:=(inA p j).take p.2.1.length) (s:=(inA p j).drop p.2.1.length) (by rw[ej];exact at_under (mx_few hp) j);rw[ej]at hB hy;have hpl:=pl_lt (mx p) j;have hlt:pl (mx p) j<(iT (mx p) (fun a=>vY p.1 s kk b (oc p t a)) j).length:=by rw[iT_len];exact hpl
      have hP:Ans n_impl_placeOf s_impl_placeOf (enc (mx p) (inA p j),()) ((((pl (mx p) j:Nat):Int),()),()):=placeOf_ans (by have:=enc_len (at_len (mx p) (j:Int));unfold inA;omega);refine Tq.ba hB (Tq.ba hP ?_);have ho:=oc_ok ht (inA_wi ht j);rw[←hy]at ho;refine Tq.ba (valueY_ans ho s kk b hp.w.2) ?_
      try dsimp only
      refine Tq.bt (by rw[dle0,Int.toNat_natCast];exact decide_eq_true hlt) (Tq.some (by rw[Int.toNat_natCast];exact lgn hlt) ?_);rw[Int.toNat_natCast,ws (n:=cN p) (by omega) (by omega)];have:=ih (j+1) (by omega) (by omega);rw[←iT_step (mx_few hp) _ hj1]at this
      first|(rw[hy];exact this)|exact this
  exact Tq.diag (key _ 0 rfl (Nat.zero_le _))
end
end Go.Proofs.YtjgfofcgmcnblaaGreat.Pf
namespace Go.Proofs.YtjgfofcgmcnblaaGreat.Pf
open Go Go.Pv
theorem mkDia_len(m:Nat)(h:m≤10)(t:List Bool):(mkDia m t).2.2.1.length≤1024:=by
  have h1:=putP_len m [] 0 t;have h2:=dpow10 h;show(putP m [] 0 t).1.length≤1024
  rw[List.length_nil]at h1;omega
theorem rT_congr {ms:List Int}{y z:List Int→Bool}(h:∀a,Under ms a→y a=z a):rT ms y=rT ms z:=by
  unfold rT;refine List.map_congr_left fun n _=>?_
  by_cases c:Under ms (dN ms n)
  . rw[h _ c]
  . rw[bo_f c,Bool.false_and,Bool.false_and]
theorem putP_false:∀(m:Nat)(ks:List Kn)(v:Int),putP m ks v (List.replicate (2^m) false)=(ks,0)
  |0,ks,v=>rfl
  | m+1,ks,v=>by
    have e:2^(m+1)=2^m+2^m:=by rw[Nat.pow_succ];omega
    have e0:0<2^m:=Nat.pow_pos (by omega);have e1:(List.replicate (2^(m+1)) false).take (2^m)=List.replicate (2^m) false:=by rw[List.take_replicate,e,Nat.min_eq_left (by omega)]
    have e2:(List.replicate (2^(m+1)) false).drop (2^m)=List.replicate (2^m) false:=by rw[List.drop_replicate,e,Nat.add_sub_cancel]
    unfold putP;rw[e1,e2,putP_false m ks (v+1)];dsimp only;rw[putP_false m ks (v+1),if_pos rfl]
theorem rT_no {ms:List Int}{y:List Int→Bool}(h:∀a,y a=false):mkDia (wdS ms) (rT ms y)=(((wdS ms:Nat):Int),0,[],()):=by
  have:rT ms y=List.replicate (2^wdS ms) false:=by
    refine List.eq_replicate_iff.2 ⟨rT_len _ _,fun b hb=>?_⟩;obtain⟨n,_,rfl⟩:=List.mem_map.1 hb;rw[h,Bool.and_false]
  unfold mkDia;rw[this,putP_false]
theorem td_bit(n b:Nat):((((n:Nat):Int).tdiv ((2^b:Nat):Int)).tmod 2==1)=n.testBit b:=by
  have e1:((n:Nat):Int).tdiv ((2^b:Nat):Int)=((n/2^b:Nat):Int):=rfl;have e2:((n/2^b:Nat):Int).tmod 2=((n/2^b % 2:Nat):Int):=rfl;rw[e1,e2,Nat.testBit_eq_decide_div_mod_eq];by_cases c:n/2^b % 2=1
  . rw[c];rfl
  . rw[decide_eq_false c,beq_false_of_ne (by omega)]
theorem rv_eq {o:Oc}(ho:OcOk o){w:Int}{s:Sh}{kk:Int}{b:Nat}(h1:0≤kk∧(0≤s.1→kk<s.1))(h2:(b:Int)<w):rY false s kk ((2^b:Nat):Int) o=vY w s kk (b:Int) o:=by
  unfold rY vY;by_cases c:shp o=s
  . have hl:(o.1.length:Int)=s.1:=by rw[←c];rfl
    have hk:=h1.2 (by omega);rw[bo_t c,bo_t ⟨c,⟨h1.1,hk⟩,by omega,h2⟩,decide_eq_false (by omega),Int.toNat_natCast];have hi:kk.toNat<o.1.length:=by omega
    have hv:=ho.vs _ (List.getElem_mem hi);rw[List.getElem?_eq_getElem hi,Option.getD_some];have:=td_bit o.1[kk.toNat].toNat b;rw[Int.toNat_of_nonneg hv.1]at this;rw[this];rfl
  . rw[bo_f c,bo_f fun h=>c h.1];rfl
theorem v_no {w:Int}{s:Sh}{kk b:Int}(h:¬((0≤kk∧kk<s.1)∧0≤b∧b<w))(o:Oc):vY w s kk b o=false:=by
  unfold vY;rw[bo_f fun h2=>h h2.2,Bool.false_and]
theorem range_agree {p:Pg}(hsm:Small p):∃d:Dia,d.2.2.1.length≤1024∧Ans n_spec_RangeDia s_spec_RangeDia (p,()) ((d,()),())∧Ans n_impl_RangeDia s_impl_RangeDia (p,()) ((d,()),()):=by
  have a1:=iOk_ans p hsm;have a2:=sOk_ans p hsm;by_cases c:IsOk p
  . obtain⟨t,ht⟩:=id c;rw[bo_t c]at a1 a2;refine⟨mkDia (wdS (mx p)) (rT (mx p) fun _=>(true:Bool)),mkDia_len _ (wd10 ht.hd) _,Gv.ans (Gv.of (fun k=>spec_RangeDia.F_eq (cl k) k p) ?_),Gv.ans (Gv.of (fun k=>impl_RangeDia.F_eq (cl k) k p) ?_)⟩
    . unfold spec_RangeDia.F spec_RangeDia.Fm;exact Tq.ba a2 (Tq.bf rfl (Tq.ba (l15Make_ans ht true (0,0,0,()) (-1) 1 (fun _=>by decide) (by decide)) (Tq.ret rfl)))
    . unfold impl_RangeDia.F impl_RangeDia.Fm;exact Tq.ba a1 (Tq.bf rfl (Tq.ba (rangeWhere_ans ht) (Tq.ret rfl)))
  . rw[bo_f c]at a1 a2;refine⟨(0,0,[],()),Nat.zero_le _,Gv.ans (Gv.of (fun k=>spec_RangeDia.F_eq (cl k) k p) ?_),Gv.ans (Gv.of (fun k=>impl_RangeDia.F_eq (cl k) k p) ?_)⟩
    . unfold spec_RangeDia.F spec_RangeDia.Fm;exact Tq.ba a2 (Tq.bt rfl (Tq.ret rfl))
    . unfold impl_RangeDia.F impl_RangeDia.Fm;exact Tq.ba a1 (Tq.bt rfl (Tq.ret rfl))
theorem shapeD_agree {p:Pg}(hsm:Small p)(s:Sh):∃d:Dia,d.2.2.1.length≤1024∧Ans n_spec_ShapeDia s_spec_ShapeDia (p,s,()) ((d,()),())∧Ans n_impl_ShapeDia s_impl_ShapeDia (p,s,()) ((d,()),()):=by
  have a1:=iOk_ans p hsm;have a2:=sOk_ans p hsm;by_cases c:IsOk p
  . obtain⟨t,ht⟩:=id c;rw[bo_t c]at a1 a2;refine⟨mkDia (wdS (mx p)) (rT (mx p) fun a=>bo (shp (oc p t a)=s)),mkDia_len _ (wd10 ht.hd) _,Gv.ans (Gv.of (fun k=>spec_ShapeDia.F_eq (cl k) k p s) ?_),Gv.ans (Gv.of (fun k=>impl_ShapeDia.F_eq (cl k) k p s) ?_)⟩
    . unfold spec_ShapeDia.F spec_ShapeDia.Fm;have e:rT (mx p) (fun a=>rY false s (-1) 1 (oc p t a))=rT (mx p) fun a=>bo (shp (oc p t a)=s):=rT_congr fun a _=>by
        unfold rY;rw[decide_eq_true (by decide),Bool.true_or,Bool.and_true,Bool.false_or]
      have:=l15Make_ans ht false s (-1) 1 (fun _=>by omega) (by decide);rw[e]at this;exact Tq.ba a2 (Tq.bf rfl (Tq.ba this (Tq.ret rfl)))
    . unfold impl_ShapeDia.F impl_ShapeDia.Fm;exact Tq.ba a1 (Tq.bf rfl (Tq.ba (shapeWhere_ans ht s) (Tq.ret rfl)))
  . rw[bo_f c]at a1 a2;refine⟨(0,0,[],()),Nat.zero_le _,Gv.ans (Gv.of (fun k=>spec_ShapeDia.F_eq (cl k) k p s) ?_),Gv.ans (Gv.of (fun k=>impl_ShapeDia.F_eq (cl k) k p s) ?_)⟩
    . unfold spec_ShapeDia.F spec_ShapeDia.Fm;exact Tq.ba a2 (Tq.bt rfl (Tq.ret rfl))
    . unfold impl_ShapeDia.F impl_ShapeDia.Fm;exact Tq.ba a1 (Tq.bt rfl (Tq.ret rfl))
theorem valueD_agree {p:Pg}(hsm:Small p)(s:Sh)(kk b:Int)(h0:-9223372036854775808≤s.1∧s.1≤9223372036854775807)(h1:kk≤9223372036854775807):∃d:Dia,d.2.2.1.length≤1024∧Ans n_spec_ValueDia s_spec_ValueDia (p,s,kk,b,()) ((d,()),())∧Ans n_impl_ValueDia s_impl_ValueDia (p,s,kk,b,()) ((d,()),()):=by
  have a1:=iOk_ans p hsm;have a2:=sOk_ans p hsm;by_cases c:IsOk p
  . obtain ⟨t,ht⟩:=id c;rw[bo_t c]at a1 a2;have hw:=ht.hd.w;have hA:=sumAll_ans ht;refine⟨mkDia (wdS (mx p)) (rT (mx p) fun a=>vY p.1 s kk b (oc p t a)),mkDia_len _ (wd10 ht.hd) _,Gv.ans (Gv.of (fun k=>spec_ValueDia.F_eq (cl k) k p s kk b) ?_),Gv.ans (Gv.of (fun k=>impl_ValueDia.F_eq (cl k) k p s kk b) ?_)⟩
    . unfold spec_ValueDia.F spec_ValueDia.Fm;refine Tq.ba a2 (Tq.bf rfl ?_);have hK:(0≤kk∧kk≤IntKind.i64.wrap (s.1-1))↔0≤kk∧(0≤s.1→kk<s.1)∧(s.1<0→s.1= -9223372036854775808):=by
        by_cases e:s.1= -9223372036854775808
        . have ew:IntKind.i64.wrap (-9223372036854775808-1)=9223372036854775807:=by decide+kernel
          rw[e,ew];omega
        . rw[w64 (by omega) (by omega)];omega
      have no:¬((0≤kk∧kk<s.1)∧0≤b∧b<p.1)→mkDia (wdS (mx p)) (rT (mx p) fun a=>vY p.1 s kk b (oc p t a))=(((wdS (mx p):Nat):Int),0,[],()):=fun h=>rT_no fun a=>v_no h _
      refine Tq.ba (l1In_ans kk 0 (IntKind.i64.wrap (s.1-1))) ?_;by_cases c1:0≤kk∧kk≤IntKind.i64.wrap (s.1-1)
      . rw [bo_t c1];have c1:=hK.1 c1;refine Tq.bf rfl ?_;rw[w64 (x:=p.1-1) (by omega) (by omega)];refine Tq.ba (l1In_ans b 0 (p.1-1)) ?_;by_cases c2:0≤b∧b≤p.1-1
        . rw [bo_t c2];refine Tq.bf rfl ?_;obtain⟨n,rfl⟩:∃n:Nat,b=(n:Int):=⟨b.toNat,by omega⟩
          have e:rT (mx p) (fun a=>rY false s kk ((2^n:Nat):Int) (oc p t a))=rT (mx p) fun a=>vY p.1 s kk (n:Int) (oc p t a):=rT_congr fun a ha=>rv_eq (oc_ok ht (under_wi ha)) ⟨c1.1,c1.2.1⟩ (by omega)
          have key:∀(d i:Nat),i+d=n→Tq (d+1) (fun k q=>spec_ValueDia.L0 (cl k) k p s kk q (d:Int) ((2^i:Nat):Int)) (· =((mkDia (wdS (mx p)) (rT (mx p) fun a=>vY p.1 s kk (n:Int) (oc p t a)),()),())):=by
            intro d
            induction d with
            | zero=>
              intro i hi;obtain rfl:i=n:=by omega
              have hp2:2^i≤2^7:=Nat.pow_le_pow_right (by omega) (by omega);have hp3:0<2^i:=Nat.pow_pos (by omega);refine Tq.succ ?_;show Tq _ (fun k q=>spec_ValueDia.step0 (cl k) k ..) _
              unfold spec_ValueDia.step0;have:=l15Make_ans ht false s kk ((2^i:Nat):Int) c1.2.1 (by omega);rw[e]at this;exact Tq.bf (decide_eq_false (by omega)) (Tq.ba this (Tq.ret rfl))
            | succ d ih=>
              intro i hi;have hp2:2^i≤2^7:=Nat.pow_le_pow_right (by omega) (by omega);have hp3:0<2^i:=Nat.pow_pos (by omega);have:=ih (i+1) (by omega);rw[Nat.pow_succ]at this;refine Tq.succ ?_;show Tq _ (fun k q=>spec_ValueDia.step0 (cl k) k ..) _
              unfold spec_ValueDia.step0;refine Tq.bt (decide_eq_true (by omega)) ?_;rw[w64 (by omega) (by omega),w64 (by omega) (by omega),show((d+1:Nat):Int)-1=(d:Int) by omega,show((2^i:Nat):Int)*2=((2^i*2:Nat):Int) by omega];exact this
          exact Tq.diag (key n 0 (by omega))
        . rw[bo_f c2];refine Tq.bt rfl (Tq.ba hA (Tq.ret ?_));rw[no fun h=>c2 (by omega)]
      . rw[bo_f c1];refine Tq.bt rfl (Tq.ba hA (Tq.ret ?_));rw[no fun h=>c1 (hK.2 (by omega))]
    . unfold impl_ValueDia.F impl_ValueDia.Fm;exact Tq.ba a1 (Tq.bf rfl (Tq.ba (valueWhere_ans ht s kk b) (Tq.ret rfl)))
  . rw[bo_f c]at a1 a2;refine⟨(0,0,[],()),Nat.zero_le _,Gv.ans (Gv.of (fun k=>spec_ValueDia.F_eq (cl k) k p s kk b) ?_),Gv.ans (Gv.of (fun k=>impl_ValueDia.F_eq (cl k) k p s kk b) ?_)⟩
    . unfold spec_ValueDia.F spec_ValueDia.Fm;exact Tq.ba a2 (Tq.bt rfl (Tq.ret rfl))
    . unfold impl_ValueDia.F impl_ValueDia.Fm;exact Tq.ba a1 (Tq.bt rfl (Tq.ret rfl))
end Go.Proofs.YtjgfofcgmcnblaaGreat.Pf
namespace Go.Proofs.YtjgfofcgmcnblaaGreat.Pf
open Go Go.Pv
theorem szInt64S_gv(a:List Int)(n:Int)(h0:0≤n)(hn:n≤1048576)(ha:a.length≤maxLen):Gv n_laws_szInt64S s_laws_szInt64S (a,n,()) (fun(r:(Int×Unit)×Unit)=>r.1.1≤n∧(r.1.1<0∨(a.length:Int)≤n)):=by
  have ha:a.length≤9223372036854775807:=ha;refine Gv.of (fun k=>laws_szInt64S.F_eq (cl k) k a n) ?_;unfold laws_szInt64S.F laws_szInt64S.Fm;rw[w64 (by omega) (by omega)];refine Tq.bif (fun h=>Tq.ret ?_) fun h=>Tq.ret ?_
  . exact⟨by show(-1:Int)≤n;omega,.inl (by show(-1:Int)<0;omega)⟩
  . have h:=of_decide_eq_false h;exact⟨by show n-(a.length:Int)≤n;omega,.inr (by omega)⟩
theorem szInputS_gv(a:List Ip)(n:Int)(h0:0≤n)(hn:n≤1048576)(ha:a.length≤maxLen):Gv n_laws_szInputS s_laws_szInputS (a,n,()) (fun(r:(Int×Unit)×Unit)=>r.1.1≤n∧(r.1.1<0∨(a.length:Int)≤n)):=by
  have ha:a.length≤9223372036854775807:=ha;refine Gv.of (fun k=>laws_szInputS.F_eq (cl k) k a n) ?_;unfold laws_szInputS.F laws_szInputS.Fm;rw[w64 (by omega) (by omega)];refine Tq.bif (fun h=>Tq.ret ?_) fun h=>Tq.ret ?_
  . exact⟨by show(-1:Int)≤n;omega,.inl (by show(-1:Int)<0;omega)⟩
  . have h:=of_decide_eq_false h;exact⟨by show n-(a.length:Int)≤n;omega,.inr (by omega)⟩
theorem szTermS_gv(a:List Tm)(n:Int)(h0:0≤n)(hn:n≤1048576)(ha:a.length≤maxLen):Gv n_laws_szTermS s_laws_szTermS (a,n,()) (fun(r:(Int×Unit)×Unit)=>r.1.1≤n∧(r.1.1<0∨(a.length:Int)≤n)):=by
  have ha:a.length≤9223372036854775807:=ha;refine Gv.of (fun k=>laws_szTermS.F_eq (cl k) k a n) ?_;unfold laws_szTermS.F laws_szTermS.Fm;rw[w64 (by omega) (by omega)];refine Tq.bif (fun h=>Tq.ret ?_) fun h=>Tq.ret ?_
  . exact⟨by show(-1:Int)≤n;omega,.inl (by show(-1:Int)<0;omega)⟩
  . have h:=of_decide_eq_false h;exact⟨by show n-(a.length:Int)≤n;omega,.inr (by omega)⟩
theorem szStmt_gv(x:Sm)(n:Int)(h0:0≤n)(hn:n≤1048576)(h1:x.2.2.1.length≤maxLen)(h2:x.2.2.2.1.length≤maxLen):
    Gv n_laws_szStmt s_laws_szStmt (x,n,()) (fun(r:(Int×Unit)×Unit)=>r.1.1≤n∧(r.1.1<0∨((x.2.2.1.length:Int)≤n∧(x.2.2.2.1.length:Int)≤n))):=by
  refine Gv.of (fun k=>laws_szStmt.F_eq (cl k) k x n) ?_;unfold laws_szStmt.F laws_szStmt.Fm;refine Tq.bind (szTermS_gv x.2.2.1 n h0 hn h1).tq fun(y:(Int×Unit)×Unit) hy=>?_
  obtain⟨hy1,hy2⟩:=hy;refine Tq.bif (fun h=>Tq.ret ⟨by show(-1:Int)≤n;omega,.inl (by show(-1:Int)<0;omega)⟩) fun h=>?_
  have h:¬y.1.1<0:=of_decide_eq_false h;refine Tq.bind (szTermS_gv x.2.2.2.1 y.1.1 (by omega) (by omega) h2).tq fun(z:(Int×Unit)×Unit) hz=>?_
  obtain⟨hz1,hz2⟩:=hz;refine Tq.bif (fun h=>Tq.ret ⟨by show(-1:Int)≤n;omega,.inl (by show(-1:Int)<0;omega)⟩) fun h'=>?_
  have h':¬z.1.1<0:=of_decide_eq_false h';exact Tq.ret ⟨by show z.1.1≤n;omega,.inr ⟨hy2.resolve_left h,by have:=hz2.resolve_left h';omega⟩⟩
theorem szStmtS_loop(a:List Sm)(ha:a.length≤1048576)(he:∀x∈a,x.2.2.1.length≤maxLen∧x.2.2.2.1.length≤maxLen):∀(d j:Nat)(m:Int),a.length-j=d→0≤m→m≤1048576→
    Tq (d+1) (fun k q=>laws_szStmtS.L0 (cl k) k a q m (j:Int)) (fun(r:(Int×Unit)×Unit)=>r.1.1≤m∧(r.1.1<0∨∀(i:Nat)(h:i<a.length),j≤i→a[i].2.2.1.length≤1048576∧a[i].2.2.2.1.length≤1048576))
  | 0,j,m,hd,h0,hm=>by
    refine Tq.succ ?_;show Tq _ (fun k q=>laws_szStmtS.step0 (cl k) k ..) _
    unfold laws_szStmtS.step0;exact Tq.bf (dnlt (by omega)) (Tq.ret ⟨Int.le_refl _,.inr fun i h hji=>by omega⟩)
  | d +1,j,m,hd,h0,hm=>by
    have hj:j<a.length:=by omega
    refine Tq.succ ?_;show Tq _ (fun k q=>laws_szStmtS.step0 (cl k) k ..) _
    unfold laws_szStmtS.step0;obtain⟨e1,e2⟩:=he a[j] (List.getElem_mem hj);refine Tq.bt (dlt hj) (Tq.bt (dle0 j) (Tq.some (lg hj) (Tq.bind (szStmt_gv a[j] m h0 hm e1 e2).tq fun(y:(Int×Unit)×Unit) hy=>?_)));obtain⟨hy1,hy2⟩:=hy;refine Tq.bif (fun h=>Tq.ret ⟨by show(-1:Int)≤m;omega,.inl (by show(-1:Int)<0;omega)⟩) fun h=>?_
    have h:¬y.1.1<0:=of_decide_eq_false h;rw[ws hj (by omega)];refine(szStmtS_loop a ha he d (j+1) y.1.1 (by omega) (by omega) (by omega)).mono fun(r:(Int×Unit)×Unit) hr=>⟨by have:=hr.1;omega,hr.2.imp id fun H i hi hji=>?_⟩
    rcases Nat.lt_or_ge j i with h3|h3
    . exact H i hi h3
    . obtain rfl:i=j:=by omega
      have:=hy2.resolve_left h;omega
theorem szStmtS_gv(a:List Sm)(n:Int)(h0:0≤n)(hn:n≤1048576)(ha:a.length≤maxLen)(he:∀x∈a,x.2.2.1.length≤maxLen∧x.2.2.2.1.length≤maxLen):
    Gv n_laws_szStmtS s_laws_szStmtS (a,n,()) (fun(r:(Int×Unit)×Unit)=>r.1.1≤n∧(r.1.1<0∨(a.length≤1048576∧∀x∈a,x.2.2.1.length≤1048576∧x.2.2.2.1.length≤1048576))):=by
  have ha:a.length≤9223372036854775807:=ha;refine Gv.of (fun k=>laws_szStmtS.F_eq (cl k) k a n) ?_;unfold laws_szStmtS.F laws_szStmtS.Fm;rw[w64 (by omega) (by omega)];refine Tq.bif (fun h=>Tq.ret ⟨by show(-1:Int)≤n;omega,.inl (by show(-1:Int)<0;omega)⟩) fun h=>?_
  have h:=of_decide_eq_false h;refine Tq.diag ((szStmtS_loop a (by omega) he a.length 0 (n-a.length) rfl (by omega) (by omega)).mono fun(r:(Int×Unit)×Unit) hr=>⟨by have:=hr.1;omega,hr.2.imp id fun H=>⟨by omega,fun x hx=>?_⟩⟩);obtain⟨i,hi,rfl⟩:=List.getElem_of_mem hx;exact H i hi (Nat.zero_le _)
def Lens(p:Pg):Prop:=p.2.1.length≤maxLen∧p.2.2.1.length≤maxLen∧p.2.2.2.2.1.length≤maxLen∧p.2.2.2.2.2.1.length≤maxLen∧∀x∈p.2.2.2.2.2.1,x.2.2.1.length≤maxLen∧x.2.2.2.1.length≤maxLen
theorem szProg_gv(p:Pg)(hp:Lens p):Gv n_laws_szProg s_laws_szProg (p,1048576,()) (fun(r:(Int×Unit)×Unit)=>r.1.1<0∨Small p):=by
  obtain⟨h1,h2,h3,h4,h5⟩:=hp;refine Gv.of (fun k=>laws_szProg.F_eq (cl k) k p 1048576) ?_;unfold laws_szProg.F laws_szProg.Fm;refine Tq.bind (szInputS_gv p.2.1 1048576 (by omega) (by omega) h1).tq fun(y:(Int×Unit)×Unit) hy=>?_
  obtain⟨a1,b1⟩:=hy;refine Tq.bif (fun h=>Tq.ret (.inl (by show(-1:Int)<0;omega))) fun h=>?_
  have c1:¬y.1.1<0:=of_decide_eq_false h;refine Tq.bind (szInputS_gv p.2.2.1 y.1.1 (by omega) (by omega) h2).tq fun(z:(Int×Unit)×Unit) hz=>?_
  obtain⟨a2,b2⟩:=hz;refine Tq.bif (fun h=>Tq.ret (.inl (by show(-1:Int)<0;omega))) fun h=>?_
  have c2:¬z.1.1<0:=of_decide_eq_false h;refine Tq.bind (szInt64S_gv p.2.2.2.2.1 z.1.1 (by omega) (by omega) h3).tq fun(u:(Int×Unit)×Unit) hu=>?_
  obtain⟨a3,b3⟩:=hu;refine Tq.bif (fun h=>Tq.ret (.inl (by show(-1:Int)<0;omega))) fun h=>?_
  have c3:¬u.1.1<0:=of_decide_eq_false h;refine Tq.bind (szStmtS_gv p.2.2.2.2.2.1 u.1.1 (by omega) (by omega) h4 h5).tq fun(v:(Int×Unit)×Unit) hv=>?_
  obtain⟨a4,b4⟩:=hv;refine Tq.bif (fun h=>Tq.ret (.inl (by show(-1:Int)<0;omega))) fun h=>?_
  have c4:¬v.1.1<0:=of_decide_eq_false h;have d4:=b4.resolve_left c4;have d1:=b1.resolve_left c1;have d2:=b2.resolve_left c2;have d3:=b3.resolve_left c3;exact Tq.ret (.inr ⟨by omega,by omega,by omega,d4.1,d4.2⟩)
end Go.Proofs.YtjgfofcgmcnblaaGreat.Pf
namespace Go.Proofs.YtjgfofcgmcnblaaGreat.Pf
open Go Go.Pv
theorem eqInput_ans(x:Ip):Ans n_laws_eqInput s_laws_eqInput (x,x,()) ((true,()),()):=by
  refine Gv.ans (Gv.of (fun k=>laws_eqInput.F_eq (cl k) k x x) ?_);unfold laws_eqInput.F laws_eqInput.Fm;exact Tq.bf (bne_self_eq_false _) (Tq.bf (bne_self_eq_false _) (Tq.ret rfl))
theorem eqTerm_ans(x:Tm):Ans n_laws_eqTerm s_laws_eqTerm (x,x,()) ((true,()),()):=by
  refine Gv.ans (Gv.of (fun k=>laws_eqTerm.F_eq (cl k) k x x) ?_);unfold laws_eqTerm.F laws_eqTerm.Fm;exact Tq.bf (bne_self_eq_false _) (Tq.bf (bne_self_eq_false _) (Tq.ret rfl))
theorem eqInt64S_loop(a:List Int)(ha:a.length≤1048576):∀(d j:Nat),a.length-j=d→
    Tq (d+1) (fun k q=>laws_eqInt64S.L0 (cl k) k a a q (j:Int)) (· =((true,()),()))
  | 0,j,hd=>by
    refine Tq.succ ?_;show Tq _ (fun k q=>laws_eqInt64S.step0 (cl k) k ..) _
    unfold laws_eqInt64S.step0;exact Tq.bf (dnlt (by omega)) (Tq.ret rfl)
  | d+1,j,hd=>by
    have hj:j<a.length:=by omega
    refine Tq.succ ?_;show Tq _ (fun k q=>laws_eqInt64S.step0 (cl k) k ..) _
    unfold laws_eqInt64S.step0;refine Tq.bt (dlt hj) (Tq.bt (dle0 j) (Tq.some (lg hj) (Tq.bt (dle0 j) (Tq.some (lg hj) (Tq.bf (bne_self_eq_false _) ?_)))));rw[ws hj (by omega)];exact eqInt64S_loop a ha d (j+1) (by omega)
theorem eqInt64S_ans(a:List Int)(ha:a.length≤1048576):Ans n_laws_eqInt64S s_laws_eqInt64S (a,a,()) ((true,()),()):=by
  refine Gv.ans (Gv.of (fun k=>laws_eqInt64S.F_eq (cl k) k a a) ?_);unfold laws_eqInt64S.F laws_eqInt64S.Fm;exact Tq.bf (bne_self_eq_false _) (Tq.diag (eqInt64S_loop a ha a.length 0 rfl))
theorem eqInputS_loop(a:List Ip)(ha:a.length≤1048576):∀(d j:Nat),a.length-j=d→
    Tq (d+1) (fun k q=>laws_eqInputS.L0 (cl k) k a a q (j:Int)) (· =((true,()),()))
  | 0,j,hd=>by
    refine Tq.succ ?_;show Tq _ (fun k q=>laws_eqInputS.step0 (cl k) k ..) _
    unfold laws_eqInputS.step0;exact Tq.bf (dnlt (by omega)) (Tq.ret rfl)
  | d+1,j,hd=>by
    have hj:j<a.length:=by omega
    refine Tq.succ ?_;show Tq _ (fun k q=>laws_eqInputS.step0 (cl k) k ..) _
    unfold laws_eqInputS.step0;refine Tq.bt (dlt hj) (Tq.bt (dle0 j) (Tq.some (lg hj) (Tq.bt (dle0 j) (Tq.some (lg hj) (Tq.bind (eqInput_ans a[j]).tq fun y hy=>?_)))));subst hy;refine Tq.bf rfl ?_;rw[ws hj (by omega)];exact eqInputS_loop a ha d (j+1) (by omega)
theorem eqInputS_ans(a:List Ip)(ha:a.length≤1048576):Ans n_laws_eqInputS s_laws_eqInputS (a,a,()) ((true,()),()):=by
  refine Gv.ans (Gv.of (fun k=>laws_eqInputS.F_eq (cl k) k a a) ?_);unfold laws_eqInputS.F laws_eqInputS.Fm;exact Tq.bf (bne_self_eq_false _) (Tq.diag (eqInputS_loop a ha a.length 0 rfl))
theorem eqTermS_loop(a:List Tm)(ha:a.length≤1048576):∀(d j:Nat),a.length-j=d→
    Tq (d+1) (fun k q=>laws_eqTermS.L0 (cl k) k a a q (j:Int)) (· =((true,()),()))
  | 0,j,hd=>by
    refine Tq.succ ?_;show Tq _ (fun k q=>laws_eqTermS.step0 (cl k) k ..) _
    unfold laws_eqTermS.step0;exact Tq.bf (dnlt (by omega)) (Tq.ret rfl)
  | d+1,j,hd=>by
    have hj:j<a.length:=by omega
    refine Tq.succ ?_;show Tq _ (fun k q=>laws_eqTermS.step0 (cl k) k ..) _
    unfold laws_eqTermS.step0;refine Tq.bt (dlt hj) (Tq.bt (dle0 j) (Tq.some (lg hj) (Tq.bt (dle0 j) (Tq.some (lg hj) (Tq.bind (eqTerm_ans a[j]).tq fun y hy=>?_)))));subst hy;refine Tq.bf rfl ?_;rw[ws hj (by omega)];exact eqTermS_loop a ha d (j+1) (by omega)
theorem eqTermS_ans(a:List Tm)(ha:a.length≤1048576):Ans n_laws_eqTermS s_laws_eqTermS (a,a,()) ((true,()),()):=by
  refine Gv.ans (Gv.of (fun k=>laws_eqTermS.F_eq (cl k) k a a) ?_);unfold laws_eqTermS.F laws_eqTermS.Fm;exact Tq.bf (bne_self_eq_false _) (Tq.diag (eqTermS_loop a ha a.length 0 rfl))
theorem eqStmt_ans(x:Sm)(h1:x.2.2.1.length≤1048576)(h2:x.2.2.2.1.length≤1048576):Ans n_laws_eqStmt s_laws_eqStmt (x,x,()) ((true,()),()):=by
  refine Gv.ans (Gv.of (fun k=>laws_eqStmt.F_eq (cl k) k x x) ?_);unfold laws_eqStmt.F laws_eqStmt.Fm;refine Tq.bf (bne_self_eq_false _) (Tq.bf (bne_self_eq_false _) (Tq.bind (eqTermS_ans x.2.2.1 h1).tq fun y hy=>?_));subst hy;refine Tq.bf rfl (Tq.bind (eqTermS_ans x.2.2.2.1 h2).tq fun y hy=>?_);subst hy;exact Tq.bf rfl (Tq.ret rfl)
theorem eqStmtS_loop(a:List Sm)(ha:a.length≤1048576)(he:∀x∈a,Ans n_laws_eqStmt s_laws_eqStmt (x,x,()) ((true,()),())):∀(d j:Nat),a.length-j=d→
    Tq (d+1) (fun k q=>laws_eqStmtS.L0 (cl k) k a a q (j:Int)) (· =((true,()),()))
  | 0,j,hd=>by
    refine Tq.succ ?_;show Tq _ (fun k q=>laws_eqStmtS.step0 (cl k) k ..) _
    unfold laws_eqStmtS.step0;exact Tq.bf (dnlt (by omega)) (Tq.ret rfl)
  | d+1,j,hd=>by
    have hj:j<a.length:=by omega
    refine Tq.succ ?_;show Tq _ (fun k q=>laws_eqStmtS.step0 (cl k) k ..) _
    unfold laws_eqStmtS.step0;refine Tq.bt (dlt hj) (Tq.bt (dle0 j) (Tq.some (lg hj) (Tq.bt (dle0 j) (Tq.some (lg hj) (Tq.bind (he a[j] (List.getElem_mem hj)).tq fun y hy=>?_)))));subst hy;refine Tq.bf rfl ?_;rw[ws hj (by omega)];exact eqStmtS_loop a ha he d (j+1) (by omega)
theorem eqStmtS_ans(a:List Sm)(ha:a.length≤1048576)(he:∀x∈a,Ans n_laws_eqStmt s_laws_eqStmt (x,x,()) ((true,()),())):Ans n_laws_eqStmtS s_laws_eqStmtS (a,a,()) ((true,()),()):=by
  refine Gv.ans (Gv.of (fun k=>laws_eqStmtS.F_eq (cl k) k a a) ?_);unfold laws_eqStmtS.F laws_eqStmtS.Fm;exact Tq.bf (bne_self_eq_false _) (Tq.diag (eqStmtS_loop a ha he a.length 0 rfl))
theorem eqProg_ans(p:Pg)(h:Small p):Ans n_laws_eqProg s_laws_eqProg (p,p,()) ((true,()),()):=by
  obtain⟨h1,h2,h3,h4,h5⟩:=h;refine Gv.ans (Gv.of (fun k=>laws_eqProg.F_eq (cl k) k p p) ?_);unfold laws_eqProg.F laws_eqProg.Fm;refine Tq.bf (bne_self_eq_false _) (Tq.bind (eqInputS_ans p.2.1 h1).tq fun y hy=>?_);subst hy;refine Tq.bf rfl (Tq.bind (eqInputS_ans p.2.2.1 h2).tq fun y hy=>?_);subst hy;refine Tq.bf rfl (Tq.bf (bne_self_eq_false _) (Tq.bind (eqInt64S_ans p.2.2.2.2.1 h3).tq fun y hy=>?_));subst hy;refine Tq.bf rfl (Tq.bind (eqStmtS_ans p.2.2.2.2.2.1 h4 fun x hx=>eqStmt_ans x (h5 x hx).1 (h5 x hx).2).tq fun y hy=>?_);subst hy;exact Tq.bf rfl (Tq.ret rfl)
end Go.Proofs.YtjgfofcgmcnblaaGreat.Pf
namespace Go.Proofs.YtjgfofcgmcnblaaGreat.Pf
open Go Go.Pv IntKind
abbrev Y9_0:Type:=(Int×((List (Int×(Int×Unit)))×((List (Int×(Int×Unit)))×(Int×((List Int)×((List (Int×(Int×((List (Int×(Int×Unit)))×((List (Int×(Int×Unit)))×Unit)))))×Unit))))))
abbrev Y9_1:Type:=((List (Int×(Int×((List (Int×(Int×Unit)))×((List (Int×(Int×Unit)))×Unit))))))
abbrev Y9_2:Type:=(List (Int×(Int×((List (Int×(Int×Unit)))×((List (Int×(Int×Unit)))×Unit)))))
abbrev Y9_3:Type:=(Int×Int×List (Int×Int×Unit)×List (Int×Int×Unit)×Unit)
abbrev Y9_4:Type:=((Int×Unit)×List (Int×Int×Unit)×Unit)
abbrev Y9_5:Type:=((Int)×(Int)×((List (Int×(Int×Unit)))))
abbrev Y9_6:Type:=((List (Int×(Int×Unit))))
abbrev Y9_7:Type:=(List (Int×(Int×Unit)))
namespace laws_markInt64S
abbrev R:=((Int×Unit)×((List Int)×Unit))
def S0(v0_0:Int)(v0_1:Int)(v0_2:(List Int)):St:=⟨mkS 19 [(0,.ref [500000]),(1,.v tI v0_0),(5,.v tI v0_1)],[([500000],.list 2 tI v0_2)]⟩
def step0(call:Cl)(k:Nat)(r0:(Int)→(Int)→((List Int))→Option R)(v0_0:Int)(v0_1:Int)(v0_2:(List Int)):Option R:=bif decide (v0_1<(↑v0_2.length:Int))then bif decide (0≤v0_1)&&decide (v0_1.toNat<v0_2.length)then(lget v0_2 v0_1.toNat).bind fun(y0:Int)=>r0 (i64.wrap (v0_0+1)) (i64.wrap (v0_1+1)) (v0_2.set v0_1.toNat v0_0)else none else some ((v0_0,()),v0_2,())
def L0(call:Cl)(k:Nat):Nat→(Int)→(Int)→((List Int))→Option R|0,_,_,_=>none|n+1,v0_0,v0_1,v0_2=>step0 call k (L0 call k n) v0_0 v0_1 v0_2
def Fm(call:Cl)(k:Nat)(l0:(Int)→(Int)→((List Int))→Option R)(a0:(List Int))(a1:Int):Option R:=l0 a1 0 a0
def F(call:Cl)(k:Nat)(a0:(List Int))(a1:Int):Option R:=Fm call k (fun v0_0_ v0_1_ v0_2_=>L0 call k k v0_0_ v0_1_ v0_2_) a0 a1
theorem L0_eq(call:Cl)(k:Nat)(J:Nat→St→Option R)(a0:(List Int))(a1:Int):∀(n:Nat)(x:((Int)×(Int)×((List Int)))),siteI E call n_laws_markInt64S k s_laws_markInt64S (a0,a1,()) J 0 n (S0 x.1 x.2.1 x.2.2)=L0 call k n x.1 x.2.1 x.2.2:=by
  refine loop_eq (s:=s_laws_markInt64S) (fun x=>S0 x.1 x.2.1 x.2.2) (fun n x=>L0 call k n x.1 x.2.1 x.2.2) (fun r x=>step0 call k (fun v0_0 v0_1 v0_2=>r (v0_0,v0_1,v0_2)) x.1 x.2.1 x.2.2) (fun _=>rfl) (fun _ _=>rfl) fun J0 x=>?_
  kernel_rfl
theorem F_eq(call:Cl)(k:Nat)(a0:(List Int))(a1:Int):bodyK E call n_laws_markInt64S k s_laws_markInt64S (a0,a1,())=F call k a0 a1:=by
  exact Eq.trans (b:=Fm call k (fun v0_0_ v0_1_ v0_2_=>siteI E call n_laws_markInt64S k s_laws_markInt64S (a0,a1,()) (fun _ _=>none) 0 k (S0 v0_0_ v0_1_ v0_2_)) a0 a1) (by kernel_rfl) (congrArg (fun l=>Fm call k l a0 a1) (funext fun v0_0_=>funext fun v0_1_=>funext fun v0_2_=>L0_eq call k (fun _ _=>none) a0 a1 k (v0_0_,v0_1_,v0_2_)))
end laws_markInt64S
namespace laws_markInputS
abbrev R:=((Int×Unit)×((List (Int×(Int×Unit)))×Unit))
def S0(v0_0:Int)(v0_1:Int)(v0_2:Y9_7):St:=⟨mkS 27 [(0,.ref [500000]),(1,.v tI v0_0),(5,.v tI v0_1)],[([500000],.list 59 tTm v0_2)]⟩
def step0(call:Cl)(k:Nat)(r0:(Int)→(Int)→Y9_6→Option R)(v0_0:Int)(v0_1:Int)(v0_2:Y9_7):Option R:=bif decide (v0_1<(↑v0_2.length:Int))then bif decide (0≤v0_1)&&decide (v0_1.toNat<v0_2.length)then(lget v0_2 v0_1.toNat).bind fun(y0:Int×Int×Unit)=>bif decide (0≤v0_1)&&decide (v0_1.toNat<(v0_2.set v0_1.toNat (v0_0,y0.2)).length)then(lget (v0_2.set v0_1.toNat (v0_0,y0.2)) v0_1.toNat).bind fun(y1:Int×Int×Unit)=>r0 (i64.wrap (i64.wrap (v0_0+1)+1)) (i64.wrap (v0_1+1)) ((v0_2.set v0_1.toNat (v0_0,y0.2)).set v0_1.toNat (y1.1,i64.wrap (v0_0+1),y1.2.2))else none else none else some ((v0_0,()),v0_2,())
def L0(call:Cl)(k:Nat):Nat→(Int)→(Int)→Y9_6→Option R|0,_,_,_=>none|n+1,v0_0,v0_1,v0_2=>step0 call k (L0 call k n) v0_0 v0_1 v0_2
def Fm(call:Cl)(k:Nat)(l0:(Int)→(Int)→Y9_6→Option R)(a0:Y9_7)(a1:Int):Option R:=l0 a1 0 a0
def F(call:Cl)(k:Nat)(a0:Y9_7)(a1:Int):Option R:=Fm call k (fun v0_0_ v0_1_ v0_2_=>L0 call k k v0_0_ v0_1_ v0_2_) a0 a1
theorem L0_eq(call:Cl)(k:Nat)(J:Nat→St→Option R)(a0:Y9_7)(a1:Int):∀(n:Nat)(x:Y9_5),siteI E call n_laws_markInputS k s_laws_markInputS (a0,a1,()) J 0 n (S0 x.1 x.2.1 x.2.2)=L0 call k n x.1 x.2.1 x.2.2:=by
  refine loop_eq (s:=s_laws_markInputS) (fun x=>S0 x.1 x.2.1 x.2.2) (fun n x=>L0 call k n x.1 x.2.1 x.2.2) (fun r x=>step0 call k (fun v0_0 v0_1 v0_2=>r (v0_0,v0_1,v0_2)) x.1 x.2.1 x.2.2) (fun _=>rfl) (fun _ _=>rfl) fun J0 x=>?_
  kernel_rfl
theorem F_eq(call:Cl)(k:Nat)(a0:Y9_7)(a1:Int):bodyK E call n_laws_markInputS k s_laws_markInputS (a0,a1,())=F call k a0 a1:=by
  exact Eq.trans (b:=Fm call k (fun v0_0_ v0_1_ v0_2_=>siteI E call n_laws_markInputS k s_laws_markInputS (a0,a1,()) (fun _ _=>none) 0 k (S0 v0_0_ v0_1_ v0_2_)) a0 a1) (by kernel_rfl) (congrArg (fun l=>Fm call k l a0 a1) (funext fun v0_0_=>funext fun v0_1_=>funext fun v0_2_=>L0_eq call k (fun _ _=>none) a0 a1 k (v0_0_,v0_1_,v0_2_)))
end laws_markInputS
namespace laws_markTermS
abbrev R:=((Int×Unit)×((List (Int×(Int×Unit)))×Unit))
def S0(v0_0:Int)(v0_1:Int)(v0_2:Y9_7):St:=⟨mkS 27 [(0,.ref [500000]),(1,.v tI v0_0),(5,.v tI v0_1)],[([500000],.list 184 tTm v0_2)]⟩
def step0(call:Cl)(k:Nat)(r0:(Int)→(Int)→Y9_6→Option R)(v0_0:Int)(v0_1:Int)(v0_2:Y9_7):Option R:=bif decide (v0_1<(↑v0_2.length:Int))then bif decide (0≤v0_1)&&decide (v0_1.toNat<v0_2.length)then(lget v0_2 v0_1.toNat).bind fun(y0:Int×Int×Unit)=>bif decide (0≤v0_1)&&decide (v0_1.toNat<(v0_2.set v0_1.toNat (v0_0,y0.2)).length)then(lget (v0_2.set v0_1.toNat (v0_0,y0.2)) v0_1.toNat).bind fun(y1:Int×Int×Unit)=>r0 (i64.wrap (i64.wrap (v0_0+1)+1)) (i64.wrap (v0_1+1)) ((v0_2.set v0_1.toNat (v0_0,y0.2)).set v0_1.toNat (y1.1,i64.wrap (v0_0+1),y1.2.2))else none else none else some ((v0_0,()),v0_2,())
def L0(call:Cl)(k:Nat):Nat→(Int)→(Int)→Y9_6→Option R|0,_,_,_=>none|n+1,v0_0,v0_1,v0_2=>step0 call k (L0 call k n) v0_0 v0_1 v0_2
def Fm(call:Cl)(k:Nat)(l0:(Int)→(Int)→Y9_6→Option R)(a0:Y9_7)(a1:Int):Option R:=l0 a1 0 a0
def F(call:Cl)(k:Nat)(a0:Y9_7)(a1:Int):Option R:=Fm call k (fun v0_0_ v0_1_ v0_2_=>L0 call k k v0_0_ v0_1_ v0_2_) a0 a1
theorem L0_eq(call:Cl)(k:Nat)(J:Nat→St→Option R)(a0:Y9_7)(a1:Int):∀(n:Nat)(x:Y9_5),siteI E call n_laws_markTermS k s_laws_markTermS (a0,a1,()) J 0 n (S0 x.1 x.2.1 x.2.2)=L0 call k n x.1 x.2.1 x.2.2:=by
  refine loop_eq (s:=s_laws_markTermS) (fun x=>S0 x.1 x.2.1 x.2.2) (fun n x=>L0 call k n x.1 x.2.1 x.2.2) (fun r x=>step0 call k (fun v0_0 v0_1 v0_2=>r (v0_0,v0_1,v0_2)) x.1 x.2.1 x.2.2) (fun _=>rfl) (fun _ _=>rfl) fun J0 x=>?_
  kernel_rfl
theorem F_eq(call:Cl)(k:Nat)(a0:Y9_7)(a1:Int):bodyK E call n_laws_markTermS k s_laws_markTermS (a0,a1,())=F call k a0 a1:=by
  exact Eq.trans (b:=Fm call k (fun v0_0_ v0_1_ v0_2_=>siteI E call n_laws_markTermS k s_laws_markTermS (a0,a1,()) (fun _ _=>none) 0 k (S0 v0_0_ v0_1_ v0_2_)) a0 a1) (by kernel_rfl) (congrArg (fun l=>Fm call k l a0 a1) (funext fun v0_0_=>funext fun v0_1_=>funext fun v0_2_=>L0_eq call k (fun _ _=>none) a0 a1 k (v0_0_,v0_1_,v0_2_)))
end laws_markTermS
namespace laws_markStmtS
abbrev R:=((Int×Unit)×((List (Int×(Int×((List (Int×(Int×Unit)))×((List (Int×(Int×Unit)))×Unit)))))×Unit))
def S0(v0_0:Int)(v0_1:Int)(v0_2:Y9_2):St:=⟨mkS 41 [(0,.ref [500000]),(1,.v tI v0_0),(5,.v tI v0_1)],[([500000],.list 114 (.pair tI (.pair tI (.pair (.own 184 tTm) (.pair (.own 184 tTm) .unit)))) v0_2)]⟩
def step0(call:Cl)(k:Nat)(r0:(Int)→(Int)→Y9_1→Option R)(v0_0:Int)(v0_1:Int)(v0_2:Y9_2):Option R:=bif decide (v0_1<(↑v0_2.length:Int))then bif decide (0≤v0_1)&&decide (v0_1.toNat<v0_2.length)then(lget v0_2 v0_1.toNat).bind fun(y0:Y9_3)=>bif decide (0≤v0_1)&&decide (v0_1.toNat<(v0_2.set v0_1.toNat (v0_0,y0.2)).length)then(lget (v0_2.set v0_1.toNat (v0_0,y0.2)) v0_1.toNat).bind fun(y1:Y9_3)=>bif decide (0≤v0_1)&&decide (v0_1.toNat<((v0_2.set v0_1.toNat (v0_0,y0.2)).set v0_1.toNat (y1.1,i64.wrap (v0_0+1),y1.2.2)).length)then(lget ((v0_2.set v0_1.toNat (v0_0,y0.2)).set v0_1.toNat (y1.1,i64.wrap (v0_0+1),y1.2.2)) v0_1.toNat).bind fun(y2:Y9_3)=>(call 182 s_laws_markTermS (y2.2.2.1,i64.wrap (i64.wrap (v0_0+1)+1),())).bind fun(y3:Y9_4)=>(lget ((v0_2.set v0_1.toNat (v0_0,y0.2)).set v0_1.toNat (y1.1,i64.wrap (v0_0+1),y1.2.2)) v0_1.toNat).bind fun(y4:Y9_3)=>bif decide (0≤v0_1)&&decide (v0_1.toNat<(((v0_2.set v0_1.toNat (v0_0,y0.2)).set v0_1.toNat (y1.1,i64.wrap (v0_0+1),y1.2.2)).set v0_1.toNat (y4.1,y4.2.1,y3.2.1,y4.2.2.2)).length)then(lget (((v0_2.set v0_1.toNat (v0_0,y0.2)).set v0_1.toNat (y1.1,i64.wrap (v0_0+1),y1.2.2)).set v0_1.toNat (y4.1,y4.2.1,y3.2.1,y4.2.2.2)) v0_1.toNat).bind fun(y5:Y9_3)=>(call 182 s_laws_markTermS (y5.2.2.2.1,y3.1.1,())).bind fun(y6:Y9_4)=>(lget (((v0_2.set v0_1.toNat (v0_0,y0.2)).set v0_1.toNat (y1.1,i64.wrap (v0_0+1),y1.2.2)).set v0_1.toNat (y4.1,y4.2.1,y3.2.1,y4.2.2.2)) v0_1.toNat).bind fun(y7:Y9_3)=>r0 y6.1.1 (i64.wrap (v0_1+1)) ((((v0_2.set v0_1.toNat (v0_0,y0.2)).set v0_1.toNat (y1.1,i64.wrap (v0_0+1),y1.2.2)).set v0_1.toNat (y4.1,y4.2.1,y3.2.1,y4.2.2.2)).set v0_1.toNat (y7.1,y7.2.1,y7.2.2.1,y6.2.1,y7.2.2.2.2))else none else none else none else none else some ((v0_0,()),v0_2,())
def L0(call:Cl)(k:Nat):Nat→(Int)→(Int)→Y9_1→Option R|0,_,_,_=>none|n+1,v0_0,v0_1,v0_2=>step0 call k (L0 call k n) v0_0 v0_1 v0_2
def Fm(call:Cl)(k:Nat)(l0:(Int)→(Int)→Y9_1→Option R)(a0:Y9_2)(a1:Int):Option R:=l0 a1 0 a0
def F(call:Cl)(k:Nat)(a0:Y9_2)(a1:Int):Option R:=Fm call k (fun v0_0_ v0_1_ v0_2_=>L0 call k k v0_0_ v0_1_ v0_2_) a0 a1
theorem L0_eq(call:Cl)(k:Nat)(J:Nat→St→Option R)(a0:Y9_2)(a1:Int):∀(n:Nat)(x:((Int)×(Int)×Y9_1)),siteI E call n_laws_markStmtS k s_laws_markStmtS (a0,a1,()) J 0 n (S0 x.1 x.2.1 x.2.2)=L0 call k n x.1 x.2.1 x.2.2:=by
  refine loop_eq (s:=s_laws_markStmtS) (fun x=>S0 x.1 x.2.1 x.2.2) (fun n x=>L0 call k n x.1 x.2.1 x.2.2) (fun r x=>step0 call k (fun v0_0 v0_1 v0_2=>r (v0_0,v0_1,v0_2)) x.1 x.2.1 x.2.2) (fun _=>rfl) (fun _ _=>rfl) fun J0 x=>?_
  kernel_rfl
theorem F_eq(call:Cl)(k:Nat)(a0:Y9_2)(a1:Int):bodyK E call n_laws_markStmtS k s_laws_markStmtS (a0,a1,())=F call k a0 a1:=by
  exact Eq.trans (b:=Fm call k (fun v0_0_ v0_1_ v0_2_=>siteI E call n_laws_markStmtS k s_laws_markStmtS (a0,a1,()) (fun _ _=>none) 0 k (S0 v0_0_ v0_1_ v0_2_)) a0 a1) (by kernel_rfl) (congrArg (fun l=>Fm call k l a0 a1) (funext fun v0_0_=>funext fun v0_1_=>funext fun v0_2_=>L0_eq call k (fun _ _=>none) a0 a1 k (v0_0_,v0_1_,v0_2_)))
end laws_markStmtS
namespace laws_markProg
abbrev R:=((Int×Unit)×((Int×((List (Int×(Int×Unit)))×((List (Int×(Int×Unit)))×(Int×((List Int)×((List (Int×(Int×((List (Int×(Int×Unit)))×((List (Int×(Int×Unit)))×Unit)))))×Unit))))))×Unit))
def Fm(call:Cl)(k:Nat)(a0:Y9_0)(a1:Int):Option R:=(call 136 s_laws_markInputS (a0.2.1,a1,())).bind fun(y0:Y9_4)=>(call 136 s_laws_markInputS (a0.2.2.1,y0.1.1,())).bind fun(y1:Y9_4)=>(call 76 s_laws_markInt64S (a0.2.2.2.2.1,y1.1.1,())).bind fun(y2:((Int×Unit)×List Int×Unit))=>(call 137 s_laws_markStmtS (a0.2.2.2.2.2.1,y2.1.1,())).bind fun(y3:((Int×Unit)×List Y9_3×Unit))=>some ((y3.1.1,()),(a0.1,y0.2.1,y1.2.1,a0.2.2.2.1,y2.2.1,y3.2.1,a0.2.2.2.2.2.2),())
def F(call:Cl)(k:Nat)(a0:Y9_0)(a1:Int):Option R:=Fm call k a0 a1
theorem F_eq(call:Cl)(k:Nat)(a0:Y9_0)(a1:Int):bodyK E call n_laws_markProg k s_laws_markProg (a0,a1,())=F call k a0 a1:=by kernel_rfl
end laws_markProg
end Go.Proofs.YtjgfofcgmcnblaaGreat.Pf
namespace Go.Proofs.YtjgfofcgmcnblaaGreat.Pf
open Go Go.Pv
def Mk(l:List Int)(k:Int):Prop:=∀(i:Nat)(h:i<l.length),l[i]=k+i
abbrev R1:=(Int×Unit)×(List Int×Unit)
theorem mark_loop(m:Int)(hm:0≤m)(hm2:m≤1125899906842624):∀(d j:Nat)(l:List Int),l.length-j=d→j≤l.length→l.length≤1048576→(∀(i:Nat)(h:i<l.length),i<j→l[i]=m+i)→
    Tq (d+1) (fun k q=>laws_markInt64S.L0 (cl k) k q (m+j) (j:Int) l) (fun(r:R1)=>∃l',r=((m+l.length,()),l',())∧l'.length=l.length∧Mk l' m):=by
  intro d
  induction d with
  | zero=>
    intro j l hd hj hl H;obtain rfl:j=l.length:=by omega
    refine Tq.succ ?_;show Tq _ (fun k q=>laws_markInt64S.step0 (cl k) k ..) _
    unfold laws_markInt64S.step0;exact Tq.bf (dnlt (Nat.le_refl _)) (Tq.ret ⟨l,rfl,rfl,fun i h=>H i h h⟩)
  | succ d ih=>
    intro j l hd hj hl H;have hj:j<l.length:=by omega
    refine Tq.succ ?_;show Tq _ (fun k q=>laws_markInt64S.step0 (cl k) k ..) _
    unfold laws_markInt64S.step0;refine Tq.bt (dlt hj) (Tq.bt (idx_ok hj) (Tq.some (lg hj) ?_));rw[ws hj (by omega),w64 (by omega) (by omega),Int.toNat_natCast,show m+(j:Int)+1=m+((j+1:Nat):Int) by omega];have:=ih (j+1) (l.set j (m+j)) (by rw[List.length_set];omega) (by rw[List.length_set];omega) (by rw[List.length_set];exact hl) (fun i h hi=>by
      rcases Nat.lt_or_ge i j with h1|h1
      . rw[List.getElem_set_ne (by omega)];exact H i (by rw[List.length_set]at h;exact h) h1
      . obtain rfl:i=j:=by omega
        rw[List.getElem_set_self])
    rw[List.length_set]at this;exact this
theorem mark_gv(l:List Int)(m:Int)(hm:0≤m)(hm2:m≤1125899906842624)(hl:l.length≤1048576):Gv n_laws_markInt64S s_laws_markInt64S (l,m,()) (fun(r:R1)=>∃l',r=((m+l.length,()),l',())∧l'.length=l.length∧Mk l' m):=by
  refine Gv.of (fun k=>laws_markInt64S.F_eq (cl k) k l m) ?_;unfold laws_markInt64S.F laws_markInt64S.Fm;have:=mark_loop m hm hm2 l.length 0 l rfl (Nat.zero_le _) hl (fun i h hi=>by omega);rw[show m+((0:Nat):Int)=m by omega]at this;exact Tq.diag this
abbrev R3:=(Int×Unit)×(List Tm×Unit)
theorem lset {α:Type}{l:List α}{j:Nat}{a:α}(hj:j<l.length):lget (l.set j a) j=some a:=by
  unfold lget;exact List.getElem?_set_self hj
theorem idx2 {j n:Nat}(h:j<n):(decide ((0:Int)≤(j:Int))&&decide (j<n))=true:=by
  rw[dle0,decide_eq_true h];rfl
theorem markI_loop:∀(d j:Nat)(l:List Ip)(z:Int),l.length-j=d→l.length≤1048576→0≤z→z+2*d≤1125899906842624→
    Tq (d+1) (fun k q=>laws_markInputS.L0 (cl k) k q z (j:Int) l) (fun(r:R3)=>∃l',r=((z+2*d,()),l',())∧l'.length=l.length):=by
  intro d
  induction d with
  | zero=>
    intro j l z hd hl h0 hz;refine Tq.succ ?_;show Tq _ (fun k q=>laws_markInputS.step0 (cl k) k ..) _
    unfold laws_markInputS.step0;exact Tq.bf (dnlt (by omega)) (Tq.ret ⟨l,by rw[show z+2*((0:Nat):Int)=z by omega],rfl⟩)
  | succ d ih=>
    intro j l z hd hl h0 hz;have hj:j<l.length:=by omega
    refine Tq.succ ?_;show Tq _ (fun k q=>laws_markInputS.step0 (cl k) k ..) _
    unfold laws_markInputS.step0;rw[Int.toNat_natCast];refine Tq.bt (dlt hj) (Tq.bt (idx2 hj) (Tq.some (lgn hj) (Tq.bt (idx2 (by rw[List.length_set];exact hj)) (Tq.some (lset hj) ?_))));rw[ws hj (by omega),w64 (x:=z+1) (by omega) (by omega),w64 (by omega) (by omega)];refine(ih (j+1) _ (z+1+1) (by rw[List.length_set,List.length_set];omega) (by rw[List.length_set,List.length_set];exact hl) (by omega) (by omega)).mono ?_;rintro r ⟨l',rfl,h⟩;rw[List.length_set,List.length_set]at h;exact⟨l',by rw[show z+1+1+2*(d:Int)=z+2*((d+1:Nat):Int) by omega],h⟩
theorem markI_gv(l:List Ip)(z:Int)(hl:l.length≤1048576)(h0:0≤z)(hz:z≤562949953421312):Gv n_laws_markInputS s_laws_markInputS (l,z,()) (fun(r:R3)=>∃l',r=((z+2*(l.length:Int),()),l',())∧l'.length=l.length):=by
  refine Gv.of (fun k=>laws_markInputS.F_eq (cl k) k l z) ?_;unfold laws_markInputS.F laws_markInputS.Fm;exact Tq.diag (markI_loop l.length 0 l z rfl hl h0 (by omega))
theorem markT_loop:∀(d j:Nat)(l:List Tm)(z:Int),l.length-j=d→l.length≤1048576→0≤z→z+2*d≤1125899906842624→
    Tq (d+1) (fun k q=>laws_markTermS.L0 (cl k) k q z (j:Int) l) (fun(r:R3)=>∃l',r=((z+2*d,()),l',())∧l'.length=l.length):=by
  intro d
  induction d with
  | zero=>
    intro j l z hd hl h0 hz;refine Tq.succ ?_;show Tq _ (fun k q=>laws_markTermS.step0 (cl k) k ..) _
    unfold laws_markTermS.step0;exact Tq.bf (dnlt (by omega)) (Tq.ret ⟨l,by rw[show z+2*((0:Nat):Int)=z by omega],rfl⟩)
  | succ d ih=>
    intro j l z hd hl h0 hz;have hj:j<l.length:=by omega
    refine Tq.succ ?_;show Tq _ (fun k q=>laws_markTermS.step0 (cl k) k ..) _
    unfold laws_markTermS.step0;rw[Int.toNat_natCast];refine Tq.bt (dlt hj) (Tq.bt (idx2 hj) (Tq.some (lgn hj) (Tq.bt (idx2 (by rw[List.length_set];exact hj)) (Tq.some (lset hj) ?_))));rw[ws hj (by omega),w64 (x:=z+1) (by omega) (by omega),w64 (by omega) (by omega)];refine(ih (j+1) _ (z+1+1) (by rw[List.length_set,List.length_set];omega) (by rw[List.length_set,List.length_set];exact hl) (by omega) (by omega)).mono ?_;rintro r ⟨l',rfl,h⟩;rw[List.length_set,List.length_set]at h;exact⟨l',by rw[show z+1+1+2*(d:Int)=z+2*((d+1:Nat):Int) by omega],h⟩
theorem markT_gv(l:List Tm)(z:Int)(hl:l.length≤1048576)(h0:0≤z)(hz:z≤562949953421312):Gv n_laws_markTermS s_laws_markTermS (l,z,()) (fun(r:R3)=>∃l',r=((z+2*(l.length:Int),()),l',())∧l'.length=l.length):=by
  refine Gv.of (fun k=>laws_markTermS.F_eq (cl k) k l z) ?_;unfold laws_markTermS.F laws_markTermS.Fm;exact Tq.diag (markT_loop l.length 0 l z rfl hl h0 (by omega))
abbrev R4:=(Int×Unit)×(List Sm×Unit)
theorem markS_loop:∀(d j:Nat)(l:List Sm)(z:Int),l.length-j=d→l.length≤1048576→(∀x∈l,x.2.2.1.length≤1048576∧x.2.2.2.1.length≤1048576)→0≤z→z+4194308*d≤562949953421312→
    Tq (d+1) (fun k q=>laws_markStmtS.L0 (cl k) k q z (j:Int) l) (fun(r:R4)=>∃z' l',r=((z',()),l',())∧0≤z'∧z'≤z+4194308*d):=by
  intro d
  induction d with
  | zero=>
    intro j l z hd hl hx h0 hz;refine Tq.succ ?_;show Tq _ (fun k q=>laws_markStmtS.step0 (cl k) k ..) _
    unfold laws_markStmtS.step0;exact Tq.bf (dnlt (by omega)) (Tq.ret ⟨z,l,rfl,h0,by omega⟩)
  | succ d ih=>
    intro j l z hd hl hx h0 hz;have hj:j<l.length:=by omega
    have hq:=hx _ (List.getElem_mem hj);refine Tq.succ ?_;show Tq _ (fun k q=>laws_markStmtS.step0 (cl k) k ..) _
    unfold laws_markStmtS.step0;rw[Int.toNat_natCast];have hj1:∀a:Sm,j<(l.set j a).length:=fun a=>by rw[List.length_set];exact hj
    have hj2:∀a b:Sm,j<((l.set j a).set j b).length:=fun a b=>by rw[List.length_set,List.length_set];exact hj
    have hj3:∀a b c:Sm,j<(((l.set j a).set j b).set j c).length:=fun a b c=>by rw[List.length_set,List.length_set,List.length_set];exact hj
    refine Tq.bt (dlt hj) (Tq.bt (idx2 hj) (Tq.some (lgn hj) (Tq.bt (idx2 (hj1 _)) (Tq.some (lset hj) (Tq.bt (idx2 (hj2 _ _)) (Tq.some (lset (hj1 _)) ?_))))));dsimp only;rw[w64 (x:=z+1) (by omega) (by omega),w64 (x:=z+1+1) (by omega) (by omega)];refine Tq.bind (markT_gv l[j].2.2.1 (z+1+1) hq.1 (by omega) (by omega)).tq ?_;rintro y ⟨l1,rfl,e1⟩;refine Tq.some (lset (hj1 _)) (Tq.bt (idx2 (hj3 _ _ _)) (Tq.some (lset (hj2 _ _)) ?_));dsimp only;refine Tq.bind (markT_gv l[j].2.2.2.1 (z+1+1+2*(l[j].2.2.1.length:Int)) hq.2 (by omega) (by omega)).tq ?_;rintro y ⟨l2,rfl,e2⟩;refine Tq.some (lset (hj2 _ _)) ?_;dsimp only;rw[ws hj (by omega)];refine(ih (j+1) _ _ (by simp only[List.length_set];omega) (by simp only[List.length_set];exact hl) (fun x hx2=>?_) (by omega) (by omega)).mono ?_
    . rcases List.mem_or_eq_of_mem_set hx2 with h|rfl
      . rcases List.mem_or_eq_of_mem_set h with h|rfl
        . rcases List.mem_or_eq_of_mem_set h with h|rfl
          . rcases List.mem_or_eq_of_mem_set h with h|rfl
            . exact hx x h
            . exact hq
          . exact hq
        . exact⟨by show l1.length≤_;omega,hq.2⟩
      . exact⟨by show l1.length≤_;omega,by show l2.length≤_;omega⟩
    . rintro r ⟨z',l',rfl,a1,a2⟩;exact⟨z',l',rfl,a1,by omega⟩
theorem markP_gv(p:Pg)(h:Small p):Gv n_laws_markProg s_laws_markProg (p,1,()) (fun(r:(Int×Unit)×(Pg×Unit))=>∃z p',r=((z,()),p',())∧0≤z∧z≤562949953421312):=by
  obtain⟨h1,h2,h3,h4,h5⟩:=h;refine Gv.of (fun k=>laws_markProg.F_eq (cl k) k p 1) ?_;unfold laws_markProg.F laws_markProg.Fm;refine Tq.bind (markI_gv p.2.1 1 h1 (by omega) (by omega)).tq ?_;rintro y ⟨l1,rfl,_⟩;refine Tq.bind (markI_gv p.2.2.1 _ h2 (by dsimp only;omega) (by dsimp only;omega)).tq ?_;rintro y ⟨l2,rfl,_⟩;refine Tq.bind (mark_gv p.2.2.2.2.1 _ (by dsimp only;omega) (by dsimp only;omega) h3).tq ?_;rintro y ⟨l3,rfl,_,_⟩;have hS:∀z:Int,0≤z→z≤100000000→Gv n_laws_markStmtS s_laws_markStmtS (p.2.2.2.2.2.1,z,()) (fun(r:R4)=>∃z' l',r=((z',()),l',())∧0≤z'∧z'≤z+4194308*p.2.2.2.2.2.1.length):=by
    intro z hz hz2;refine Gv.of (fun k=>laws_markStmtS.F_eq (cl k) k p.2.2.2.2.2.1 z) ?_;unfold laws_markStmtS.F laws_markStmtS.Fm;exact Tq.diag (markS_loop _ 0 p.2.2.2.2.2.1 z rfl h4 h5 hz (by omega))
  refine Tq.bind (hS _ (by dsimp only;omega) (by dsimp only;omega)).tq ?_;rintro y ⟨z,l4,rfl,a1,a2⟩;exact Tq.ret ⟨z,_,rfl,a1,by dsimp only at a2;omega⟩
end Go.Proofs.YtjgfofcgmcnblaaGreat.Pf
namespace Go.Proofs.YtjgfofcgmcnblaaGreat.Pf
open Go Go.Pv IntKind
abbrev Y9K_0:Type:=(Int×(Int×((List (Int×(Int×(Int×Unit))))×Unit)))
abbrev Y9K_1:Type:=((List (Int×(Int×(Int×Unit)))))
abbrev Y9K_2:Type:=(List (Int×(Int×(Int×Unit))))
abbrev Y9K_3:Type:=(Int×(Int×(Int×Unit)))
namespace laws_eqKnot
abbrev R:=((Bool×Unit)×Unit)
def Fm(call:Cl)(k:Nat)(a0:Y9K_3)(a1:Y9K_3):Option R:=bif a0.1!=a1.1 then some ((false,()),())else bif a0.2.1!=a1.2.1 then some ((false,()),())else bif a0.2.2.1!=a1.2.2.1 then some ((false,()),())else some ((true,()),())
def F(call:Cl)(k:Nat)(a0:Y9K_3)(a1:Y9K_3):Option R:=Fm call k a0 a1
theorem F_eq(call:Cl)(k:Nat)(a0:Y9K_3)(a1:Y9K_3):bodyK E call n_laws_eqKnot k s_laws_eqKnot (a0,a1,())=F call k a0 a1:=by kernel_rfl
end laws_eqKnot
namespace laws_eqKnotS
abbrev R:=((Bool×Unit)×Unit)
def S0(a0:Y9K_2)(a1:Y9K_2)(v0_2:Int):St:=⟨mkS 27 [(0,.v (.slc (.pair tI tTm)) (a0)),(1,.v (.slc (.pair tI tTm)) (a1)),(5,.v tI v0_2)],[]⟩
def step0(call:Cl)(k:Nat)(a0:Y9K_2)(a1:Y9K_2)(r0:(Int)→Option R)(v0_2:Int):Option R:=bif decide (v0_2<(↑a0.length:Int))then bif decide (0≤v0_2)then(lget a0 v0_2.toNat).bind fun(y0:Int×Int×Int×Unit)=>bif decide (0≤v0_2)then(lget a1 v0_2.toNat).bind fun(y1:Int×Int×Int×Unit)=>(call 187 s_laws_eqKnot (y0,y1,())).bind fun(y2:(Bool×Unit)×Unit)=>bif !y2.1.1 then some ((false,()),())else r0 (i64.wrap (v0_2+1))else none else none else some ((true,()),())
def L0(call:Cl)(k:Nat)(a0:Y9K_2)(a1:Y9K_2):Nat→(Int)→Option R|0,_=>none|n+1,v0_2=>step0 call k a0 a1 (L0 call k a0 a1 n) v0_2
def Fm(call:Cl)(k:Nat)(l0:Y9K_1→Y9K_1→(Int)→Option R)(a0:Y9K_2)(a1:Y9K_2):Option R:=bif(↑a0.length:Int)!=(↑a1.length:Int)then some ((false,()),())else l0 a0 a1 0
def F(call:Cl)(k:Nat)(a0:Y9K_2)(a1:Y9K_2):Option R:=Fm call k (fun a0_ a1_ v0_2_=>L0 call k a0_ a1_ k v0_2_) a0 a1
theorem L0_eq(call:Cl)(k:Nat)(J:Nat→St→Option R)(a0:Y9K_2)(a1:Y9K_2):∀(n:Nat)(x:(Int)),siteI E call n_laws_eqKnotS k s_laws_eqKnotS (a0,a1,()) J 0 n (S0 a0 a1 x)=L0 call k a0 a1 n x:=by
  refine loop_eq (s:=s_laws_eqKnotS) (fun x=>S0 a0 a1 x) (fun n x=>L0 call k a0 a1 n x) (fun r x=>step0 call k a0 a1 (fun v0_2=>r v0_2) x) (fun _=>rfl) (fun _ _=>rfl) fun J0 x=>?_
  kernel_rfl
theorem F_eq(call:Cl)(k:Nat)(a0:Y9K_2)(a1:Y9K_2):bodyK E call n_laws_eqKnotS k s_laws_eqKnotS (a0,a1,())=F call k a0 a1:=by
  exact Eq.trans (b:=Fm call k (fun a0 a1 v0_2_=>siteI E call n_laws_eqKnotS k s_laws_eqKnotS (a0,a1,()) (fun _ _=>none) 0 k (S0 a0 a1 v0_2_)) a0 a1) (by kernel_rfl) (congrArg (fun l=>Fm call k l a0 a1) (funext fun a0=>funext fun a1=>funext fun v0_2_=>L0_eq call k (fun _ _=>none) a0 a1 k v0_2_))
end laws_eqKnotS
namespace laws_eqDia
abbrev R:=((Bool×Unit)×Unit)
def Fm(call:Cl)(k:Nat)(a0:Y9K_0)(a1:Y9K_0):Option R:=bif a0.1!=a1.1 then some ((false,()),())else bif a0.2.1!=a1.2.1 then some ((false,()),())else(call 140 s_laws_eqKnotS (a0.2.2.1,a1.2.2.1,())).bind fun(y0:(Bool×Unit)×Unit)=>bif !y0.1.1 then some ((false,()),())else some ((true,()),())
def F(call:Cl)(k:Nat)(a0:Y9K_0)(a1:Y9K_0):Option R:=Fm call k a0 a1
theorem F_eq(call:Cl)(k:Nat)(a0:Y9K_0)(a1:Y9K_0):bodyK E call n_laws_eqDia k s_laws_eqDia (a0,a1,())=F call k a0 a1:=by kernel_rfl
end laws_eqDia
namespace laws_markKnotS
abbrev R:=((Int×Unit)×((List (Int×(Int×(Int×Unit))))×Unit))
def S0(v0_0:Int)(v0_1:Int)(v0_2:Y9K_2):St:=⟨mkS 34 [(0,.ref [500000]),(1,.v tI v0_0),(5,.v tI v0_1)],[([500000],.list 168 (.pair tI tTm) v0_2)]⟩
def step0(call:Cl)(k:Nat)(r0:(Int)→(Int)→Y9K_1→Option R)(v0_0:Int)(v0_1:Int)(v0_2:Y9K_2):Option R:=bif decide (v0_1<(↑v0_2.length:Int))then bif decide (0≤v0_1)&&decide (v0_1.toNat<v0_2.length)then(lget v0_2 v0_1.toNat).bind fun(y0:Int×Int×Int×Unit)=>bif decide (0≤v0_1)&&decide (v0_1.toNat<(v0_2.set v0_1.toNat (v0_0,y0.2)).length)then(lget (v0_2.set v0_1.toNat (v0_0,y0.2)) v0_1.toNat).bind fun(y1:Int×Int×Int×Unit)=>bif decide (0≤v0_1)&&decide (v0_1.toNat<((v0_2.set v0_1.toNat (v0_0,y0.2)).set v0_1.toNat (y1.1,i64.wrap (v0_0+1),y1.2.2)).length)then(lget ((v0_2.set v0_1.toNat (v0_0,y0.2)).set v0_1.toNat (y1.1,i64.wrap (v0_0+1),y1.2.2)) v0_1.toNat).bind fun(y2:Int×Int×Int×Unit)=>r0 (i64.wrap (i64.wrap (i64.wrap (v0_0+1)+1)+1)) (i64.wrap (v0_1+1)) (((v0_2.set v0_1.toNat (v0_0,y0.2)).set v0_1.toNat (y1.1,i64.wrap (v0_0+1),y1.2.2)).set v0_1.toNat (y2.1,y2.2.1,i64.wrap (i64.wrap (v0_0+1)+1),y2.2.2.2))else none else none else none else some ((v0_0,()),v0_2,())
def L0(call:Cl)(k:Nat):Nat→(Int)→(Int)→Y9K_1→Option R|0,_,_,_=>none|n+1,v0_0,v0_1,v0_2=>step0 call k (L0 call k n) v0_0 v0_1 v0_2
def Fm(call:Cl)(k:Nat)(l0:(Int)→(Int)→Y9K_1→Option R)(a0:Y9K_2)(a1:Int):Option R:=l0 a1 0 a0
def F(call:Cl)(k:Nat)(a0:Y9K_2)(a1:Int):Option R:=Fm call k (fun v0_0_ v0_1_ v0_2_=>L0 call k k v0_0_ v0_1_ v0_2_) a0 a1
theorem L0_eq(call:Cl)(k:Nat)(J:Nat→St→Option R)(a0:Y9K_2)(a1:Int):∀(n:Nat)(x:((Int)×(Int)×Y9K_1)),siteI E call n_laws_markKnotS k s_laws_markKnotS (a0,a1,()) J 0 n (S0 x.1 x.2.1 x.2.2)=L0 call k n x.1 x.2.1 x.2.2:=by
  refine loop_eq (s:=s_laws_markKnotS) (fun x=>S0 x.1 x.2.1 x.2.2) (fun n x=>L0 call k n x.1 x.2.1 x.2.2) (fun r x=>step0 call k (fun v0_0 v0_1 v0_2=>r (v0_0,v0_1,v0_2)) x.1 x.2.1 x.2.2) (fun _=>rfl) (fun _ _=>rfl) fun J0 x=>?_
  kernel_rfl
theorem F_eq(call:Cl)(k:Nat)(a0:Y9K_2)(a1:Int):bodyK E call n_laws_markKnotS k s_laws_markKnotS (a0,a1,())=F call k a0 a1:=by
  exact Eq.trans (b:=Fm call k (fun v0_0_ v0_1_ v0_2_=>siteI E call n_laws_markKnotS k s_laws_markKnotS (a0,a1,()) (fun _ _=>none) 0 k (S0 v0_0_ v0_1_ v0_2_)) a0 a1) (by kernel_rfl) (congrArg (fun l=>Fm call k l a0 a1) (funext fun v0_0_=>funext fun v0_1_=>funext fun v0_2_=>L0_eq call k (fun _ _=>none) a0 a1 k (v0_0_,v0_1_,v0_2_)))
end laws_markKnotS
namespace laws_markDia
abbrev R:=((Int×Unit)×((Int×(Int×((List (Int×(Int×(Int×Unit))))×Unit)))×Unit))
def Fm(call:Cl)(k:Nat)(a0:Y9K_0)(a1:Int):Option R:=(call 141 s_laws_markKnotS (a0.2.2.1,a1,())).bind fun(y0:((Int×Unit)×List (Int×Int×Int×Unit)×Unit))=>some ((y0.1.1,()),(a0.1,a0.2.1,y0.2.1,a0.2.2.2),())
def F(call:Cl)(k:Nat)(a0:Y9K_0)(a1:Int):Option R:=Fm call k a0 a1
theorem F_eq(call:Cl)(k:Nat)(a0:Y9K_0)(a1:Int):bodyK E call n_laws_markDia k s_laws_markDia (a0,a1,())=F call k a0 a1:=by kernel_rfl
end laws_markDia
namespace laws_heldKnotS
abbrev R:=((Int×Unit)×Unit)
def S0(a0:Y9K_2)(v0_1:Int)(v0_2:Int):St:=⟨mkS 40 [(0,.v (.slc (.pair tI tTm)) (a0)),(1,.v tI v0_1),(5,.v tI v0_2)],[]⟩
def step0(call:Cl)(k:Nat)(a0:Y9K_2)(r0:(Int)→(Int)→Option R)(v0_1:Int)(v0_2:Int):Option R:=bif decide (v0_2<(↑a0.length:Int))then bif decide (0≤v0_2)then(lget a0 v0_2.toNat).bind fun(y0:Int×Int×Int×Unit)=>bif y0.1!=v0_1 then some (((-1),()),())else bif decide (0≤v0_2)then(lget a0 v0_2.toNat).bind fun(y1:Int×Int×Int×Unit)=>bif y1.2.1!=i64.wrap (v0_1+1)then some (((-1),()),())else bif decide (0≤v0_2)then(lget a0 v0_2.toNat).bind fun(y2:Int×Int×Int×Unit)=>bif y2.2.2.1!=i64.wrap (i64.wrap (v0_1+1)+1)then some (((-1),()),())else r0 (i64.wrap (i64.wrap (i64.wrap (v0_1+1)+1)+1)) (i64.wrap (v0_2+1))else none else none else none else some ((v0_1,()),())
def L0(call:Cl)(k:Nat)(a0:Y9K_2):Nat→(Int)→(Int)→Option R|0,_,_=>none|n+1,v0_1,v0_2=>step0 call k a0 (L0 call k a0 n) v0_1 v0_2
def Fm(call:Cl)(k:Nat)(l0:Y9K_1→(Int)→(Int)→Option R)(a0:Y9K_2)(a1:Int):Option R:=l0 a0 a1 0
def F(call:Cl)(k:Nat)(a0:Y9K_2)(a1:Int):Option R:=Fm call k (fun a0_ v0_1_ v0_2_=>L0 call k a0_ k v0_1_ v0_2_) a0 a1
theorem L0_eq(call:Cl)(k:Nat)(J:Nat→St→Option R)(a0:Y9K_2)(a1:Int):∀(n:Nat)(x:((Int)×(Int))),siteI E call n_laws_heldKnotS k s_laws_heldKnotS (a0,a1,()) J 0 n (S0 a0 x.1 x.2)=L0 call k a0 n x.1 x.2:=by
  refine loop_eq (s:=s_laws_heldKnotS) (fun x=>S0 a0 x.1 x.2) (fun n x=>L0 call k a0 n x.1 x.2) (fun r x=>step0 call k a0 (fun v0_1 v0_2=>r (v0_1,v0_2)) x.1 x.2) (fun _=>rfl) (fun _ _=>rfl) fun J0 x=>?_
  kernel_rfl
theorem F_eq(call:Cl)(k:Nat)(a0:Y9K_2)(a1:Int):bodyK E call n_laws_heldKnotS k s_laws_heldKnotS (a0,a1,())=F call k a0 a1:=by
  exact Eq.trans (b:=Fm call k (fun a0 v0_1_ v0_2_=>siteI E call n_laws_heldKnotS k s_laws_heldKnotS (a0,a1,()) (fun _ _=>none) 0 k (S0 a0 v0_1_ v0_2_)) a0 a1) (by kernel_rfl) (congrArg (fun l=>Fm call k l a0 a1) (funext fun a0=>funext fun v0_1_=>funext fun v0_2_=>L0_eq call k (fun _ _=>none) a0 a1 k (v0_1_,v0_2_)))
end laws_heldKnotS
namespace laws_heldDia
abbrev R:=((Int×Unit)×Unit)
def Fm(call:Cl)(k:Nat)(a0:Y9K_0)(a1:Int):Option R:=(call 142 s_laws_heldKnotS (a0.2.2.1,a1,())).bind fun(y0:(Int×Unit)×Unit)=>bif decide (y0.1.1<0)then some (((-1),()),())else some ((y0.1.1,()),())
def F(call:Cl)(k:Nat)(a0:Y9K_0)(a1:Int):Option R:=Fm call k a0 a1
theorem F_eq(call:Cl)(k:Nat)(a0:Y9K_0)(a1:Int):bodyK E call n_laws_heldDia k s_laws_heldDia (a0,a1,())=F call k a0 a1:=by kernel_rfl
end laws_heldDia
end Go.Proofs.YtjgfofcgmcnblaaGreat.Pf
namespace Go.Proofs.YtjgfofcgmcnblaaGreat.Pf
open Go Go.Pv
theorem eqKnS_ans {l:List Kn}(hn:l.length≤1048576):Ans n_laws_eqKnotS s_laws_eqKnotS (l,l,()) ((true,()),()):=by
  have e1:∀o:Kn,Ans n_laws_eqKnot s_laws_eqKnot (o,o,()) ((true,()),()):=fun o=>by
    refine Gv.ans (Gv.of (fun k=>laws_eqKnot.F_eq (cl k) k o o) ?_);unfold laws_eqKnot.F laws_eqKnot.Fm;exact Tq.bf (bne_self_eq_false _) (Tq.bf (bne_self_eq_false _) (Tq.bf (bne_self_eq_false _) (Tq.ret rfl)))
  have key:∀(d j:Nat),l.length-j=d→Tq (d+1) (fun k q=>laws_eqKnotS.L0 (cl k) k l l q (j:Int)) (· =((true,()),())):=by
    intro d
    induction d with
    | zero=>
      intro j hd;refine Tq.succ ?_;show Tq _ (fun k q=>laws_eqKnotS.step0 (cl k) k ..) _
      unfold laws_eqKnotS.step0;exact Tq.bf (dnlt (by omega)) (Tq.ret rfl)
    | succ d ih=>
      intro j hd;have hj:j<l.length:=by omega
      refine Tq.succ ?_;show Tq _ (fun k q=>laws_eqKnotS.step0 (cl k) k ..) _
      unfold laws_eqKnotS.step0;refine Tq.bt (dlt hj) (Tq.bt (dle0 j) (Tq.some (lg hj) (Tq.bt (dle0 j) (Tq.some (lg hj) (Tq.ba (e1 l[j]) (Tq.bf rfl ?_))))));rw[ws hj (by omega)];exact ih (j+1) (by omega)
  refine Gv.ans (Gv.of (fun k=>laws_eqKnotS.F_eq (cl k) k l l) ?_);unfold laws_eqKnotS.F laws_eqKnotS.Fm;exact Tq.bf (bne_self_eq_false _) (Tq.diag (key _ 0 rfl))
def MkK:List Kn→Int→Prop
  |[],_=>True
  |o::l,k=>o.1=k∧o.2.1=k+1∧o.2.2.1=k+2∧MkK l (k+3)
theorem MkK.app:∀{l:List Kn}{k z:Int}{o:Kn},MkK l k→z=k+3*l.length→o.1=z→o.2.1=z+1→o.2.2.1=z+2→MkK (l++[o]) k
  |[],k,z,o,_,h,h2,h3,h4=>⟨by rw[List.length_nil]at h;omega,by rw[List.length_nil]at h;omega,by rw[List.length_nil]at h;omega,trivial⟩
  |b::l,k,z,o,h,h1,h2,h3,h4=>⟨h.1,h.2.1,h.2.2.1,MkK.app (z:=z) h.2.2.2 (by rw[List.length_cons]at h1;omega) h2 h3 h4⟩
abbrev RK:=(Int×Unit)×(List Kn×Unit)
theorem markK_gv {l:List Kn}(hn:l.length≤1024):Gv n_laws_markKnotS s_laws_markKnotS (l,1,()) (fun(r:RK)=>∃z l',r=((z,()),l',())∧0≤z∧Ans n_laws_heldKnotS s_laws_heldKnotS (l',1,()) ((z,()),())):=by
  have key:∀(d j:Nat)(done rest:List Kn),rest.length=d→done.length=j→j+d≤1024→MkK done 1→
      Tq (d+1) (fun k q=>laws_markKnotS.L0 (cl k) k q (1+3*(j:Int)) (j:Int) (done++rest)) (fun(r:RK)=>∃l',r=((1+3*((j+d:Nat):Int),()),l',())∧l'.length=j+d∧MkK l' 1):=by
    intro d
    induction d with
    | zero=>
      intro j done rest hr hj hd hM;obtain rfl:=List.length_eq_zero_iff.1 hr;rw[List.append_nil];refine Tq.succ ?_;show Tq _ (fun k q=>laws_markKnotS.step0 (cl k) k ..) _
      unfold laws_markKnotS.step0;exact Tq.bf (dnlt (by omega)) (Tq.ret ⟨done,rfl,hj,hM⟩)
    | succ d ih=>
      intro j done rest hr hj hd hM;rcases rest with _|⟨a,rest⟩
      . rw[List.length_nil]at hr;omega
      rw[List.length_cons]at hr;have hlen:∀b:Kn,(done++b::rest).length=j+(d+1):=fun b=>by rw[List.length_append,List.length_cons];omega
      have hget:∀b:Kn,lget (done++b::rest) j=some b:=fun b=>by
        unfold lget;rw[List.getElem?_append_right (by omega),show j-done.length=0 by omega];rfl
      have hset:∀b c:Kn,(done++b::rest).set j c=done++c::rest:=fun b c=>by
        rw[List.set_append_right _ _ (by omega),show j-done.length=0 by omega,List.set_cons_zero]
      refine Tq.succ ?_;show Tq _ (fun k q=>laws_markKnotS.step0 (cl k) k ..) _
      unfold laws_markKnotS.step0;rw[Int.toNat_natCast];refine Tq.bt (dlt (by rw[hlen];omega)) (Tq.bt (idx2 (by rw[hlen];omega)) (Tq.some (hget a) ?_))
      try dsimp only
      rw[hset];refine Tq.bt (idx2 (by rw[hlen];omega)) (Tq.some (hget _) ?_)
      try dsimp only
      rw[hset];refine Tq.bt (idx2 (by rw[hlen];omega)) (Tq.some (hget _) ?_)
      try dsimp only
      rw[hset,ws (n:=1025) (by omega) (by omega),w64 (x:=1+3*(j:Int)+1) (by omega) (by omega),w64 (x:=1+3*(j:Int)+1+1) (by omega) (by omega),w64 (by omega) (by omega)];have hM2:=MkK.app (z:=1+3*(j:Int)) (o:=(1+3*(j:Int),1+3*(j:Int)+1,1+3*(j:Int)+1+1,())) hM (by rw[hj]) rfl rfl (by dsimp only;omega);have:=ih (j+1) (done++[(1+3*(j:Int),1+3*(j:Int)+1,1+3*(j:Int)+1+1,())]) rest (by omega) (by simp;omega) (by omega) hM2;rw[List.append_assoc,List.singleton_append,show 1+3*((j+1:Nat):Int)=1+3*(j:Int)+1+1+1 by omega,show j+1+d=j+(d+1) by omega]at this;exact this
  have held:∀(l:List Kn),l.length≤1024→MkK l 1→∀(d j:Nat),l.length-j=d→j≤l.length→MkK (l.drop j) (1+3*(j:Int))→
      Tq (d+1) (fun k q=>laws_heldKnotS.L0 (cl k) k l q (1+3*(j:Int)) (j:Int)) (· =((1+3*(l.length:Int),()),())):=by
    intro l hl hM d
    induction d with
    | zero=>
      intro j hd hj _;obtain rfl:j=l.length:=by omega
      refine Tq.succ ?_;show Tq _ (fun k q=>laws_heldKnotS.step0 (cl k) k ..) _
      unfold laws_heldKnotS.step0;exact Tq.bf (dnlt (by omega)) (Tq.ret rfl)
    | succ d ih=>
      intro j hd hj hM;have hj:j<l.length:=by omega
      rw[List.drop_eq_getElem_cons hj]at hM;obtain⟨m1,m2,m3,m4⟩:=hM;refine Tq.succ ?_;show Tq _ (fun k q=>laws_heldKnotS.step0 (cl k) k ..) _
      unfold laws_heldKnotS.step0;rw[w64 (x:=1+3*(j:Int)+1) (by omega) (by omega),w64 (x:=1+3*(j:Int)+1+1) (by omega) (by omega),w64 (x:=1+3*(j:Int)+1+1+1) (by omega) (by omega),ws hj (by omega)];refine Tq.bt (dlt hj) (Tq.bt (dle0 j) (Tq.some (lg hj) (Tq.bf (bne_eq_false_iff_eq.2 m1) (Tq.bt (dle0 j) (Tq.some (lg hj) (Tq.bf (bne_eq_false_iff_eq.2 m2) (Tq.bt (dle0 j) (Tq.some (lg hj) (Tq.bf (bne_eq_false_iff_eq.2 (by rw[m3];omega)) ?_)))))))));have:=ih (j+1) (by omega) (by omega) (by rw[show 1+3*((j+1:Nat):Int)=1+3*(j:Int)+3 by omega];exact m4);rw[show 1+3*((j+1:Nat):Int)=1+3*(j:Int)+1+1+1 by omega]at this;exact this
  refine Gv.of (fun k=>laws_markKnotS.F_eq (cl k) k l 1) ?_;unfold laws_markKnotS.F laws_markKnotS.Fm;refine(Tq.diag (key l.length 0 [] l rfl rfl (by omega) trivial)).mono ?_;rintro y ⟨l',rfl,h1,h2⟩;refine⟨_,l',rfl,by omega,Gv.ans (Gv.of (fun k=>laws_heldKnotS.F_eq (cl k) k l' 1) ?_)⟩;unfold laws_heldKnotS.F laws_heldKnotS.Fm;have:=held l' (by omega) h2 l'.length 0 rfl (Nat.zero_le _) h2;rw[h1]at this;exact Tq.diag this
theorem eqDia_ans {d:Dia}(h:d.2.2.1.length≤1024):Ans n_laws_eqDia s_laws_eqDia (d,d,()) ((true,()),()):=by
  refine Gv.ans (Gv.of (fun k=>laws_eqDia.F_eq (cl k) k d d) ?_);unfold laws_eqDia.F laws_eqDia.Fm;exact Tq.bf (bne_self_eq_false _) (Tq.bf (bne_self_eq_false _) (Tq.ba (eqKnS_ans (by omega)) (Tq.bf rfl (Tq.ret rfl))))
theorem markD_gv {d:Dia}(h:d.2.2.1.length≤1024):Gv n_laws_markDia s_laws_markDia (d,1,()) (fun(r:(Int×Unit)×(Dia×Unit))=>∃z l',r=((z,()),(d.1,d.2.1,l',d.2.2.2),())∧0≤z∧Ans n_laws_heldDia s_laws_heldDia ((d.1,d.2.1,l',d.2.2.2),1,()) ((z,()),())):=by
  refine Gv.of (fun k=>laws_markDia.F_eq (cl k) k d 1) ?_;unfold laws_markDia.F laws_markDia.Fm;refine Tq.bind (markK_gv h).tq ?_;rintro y ⟨z,l',rfl,h1,h2⟩;refine Tq.ret ⟨z,l',rfl,h1,Gv.ans (Gv.of (fun k=>laws_heldDia.F_eq (cl k) k _ 1) ?_)⟩;unfold laws_heldDia.F laws_heldDia.Fm;exact Tq.ba h2 (Tq.bf (decide_eq_false (by dsimp only;omega)) (Tq.ret rfl))
end Go.Proofs.YtjgfofcgmcnblaaGreat.Pf
