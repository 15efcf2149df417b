/- What terms make of values: both sides answer the same. Its condition: values are below the size, the width is right. -/
import Derived.Test.YtjgfofcgmcnblaaGreatPfL
import Derived.Test.YtjgfofcgmcnblaaGreatPfT5
set_option maxHeartbeats 2000000
set_option linter.all false
namespace Go.Proofs.YtjgfofcgmcnblaaGreat.Pf
open Go Go.Pv
/-! ### Bits of numbers-/
theorem sz_nat(w:Int):sz w=((2^w.toNat:Nat):Int):=by unfold sz;rw[Int.natCast_pow];rfl
theorem bitsI_and {a b:Nat}(ha:a<2^32)(hb:b<2^32):bitsI .and .i64 (a:Int) (b:Int)=((a&&&b:Nat):Int):=by
  have h1:a&&&b<2^32:=Nat.and_lt_two_pow a hb;show IntKind.i64.wrap (((BitVec.ofInt 64 (a:Int))&&&(BitVec.ofInt 64 (b:Int))).toNat:Int)=_
  rw[BitVec.ofInt_natCast,BitVec.ofInt_natCast,BitVec.toNat_and,BitVec.toNat_ofNat,BitVec.toNat_ofNat,Nat.mod_eq_of_lt (by omega),Nat.mod_eq_of_lt (by omega)];exact w64 (by omega) (by omega)
theorem bitsI_orN {a b:Nat}(ha:a<2^32)(hb:b<2^32):bitsI .or .i64 (a:Int) (b:Int)=((a|||b:Nat):Int):=by
  have h1:a|||b<2^32:=Nat.or_lt_two_pow ha hb;show IntKind.i64.wrap (((BitVec.ofInt 64 (a:Int))|||(BitVec.ofInt 64 (b:Int))).toNat:Int)=_
  rw[BitVec.ofInt_natCast,BitVec.ofInt_natCast,BitVec.toNat_or,BitVec.toNat_ofNat,BitVec.toNat_ofNat,Nat.mod_eq_of_lt (by omega),Nat.mod_eq_of_lt (by omega)];exact w64 (by omega) (by omega)
theorem bitsI_xor {a b:Nat}(ha:a<2^32)(hb:b<2^32):bitsI .xor .i64 (a:Int) (b:Int)=((a^^^b:Nat):Int):=by
  have h1:a^^^b<2^32:=Nat.xor_lt_two_pow ha hb;show IntKind.i64.wrap (((BitVec.ofInt 64 (a:Int))^^^(BitVec.ofInt 64 (b:Int))).toNat:Int)=_
  rw[BitVec.ofInt_natCast,BitVec.ofInt_natCast,BitVec.toNat_xor,BitVec.toNat_ofNat,BitVec.toNat_ofNat,Nat.mod_eq_of_lt (by omega),Nat.mod_eq_of_lt (by omega)];exact w64 (by omega) (by omega)
theorem emod_64(x:Int)(w:Nat)(hw:w≤64):(x % 18446744073709551616)% (2^w:Nat)=x % (2^w:Nat):=by
  refine Int.emod_emod_of_dvd x ⟨((2^(64-w):Nat):Int),?_⟩;rw[←Int.natCast_mul,←Nat.pow_add,show w+(64-w)=64 by omega];rfl
theorem bitsI_mask(x:Int){w:Nat}(hw:w≤8):bitsI .and .i64 x ((2^w-1:Nat):Int)=x % (2^w:Nat):=by
  have h0:2^w≤2^8:=Nat.pow_le_pow_right (by omega) hw;have h1:0<2^w:=Nat.pow_pos (by omega);have h2:(x % 18446744073709551616).toNat % 2^w<2^w:=Nat.mod_lt _ h1;show IntKind.i64.wrap (((BitVec.ofInt 64 x)&&&(BitVec.ofInt 64 ((2^w-1:Nat):Int))).toNat:Int)=_
  rw[BitVec.ofInt_natCast,BitVec.toNat_and,BitVec.toNat_ofNat,BitVec.toNat_ofInt,Nat.mod_eq_of_lt (a:=2^w-1) (by omega),Nat.and_two_pow_sub_one_eq_mod];rw[show(x % ((2^64:Nat):Int))=x % 18446744073709551616 from rfl,w64 (by omega) (by omega),Int.natCast_emod,Int.toNat_of_nonneg (Int.emod_nonneg _ (by omega)),emod_64 x w (by omega)]
theorem mask_eq {w:Int}(h:1≤w∧w≤8):IntKind.i64.wrap (shlI IntKind.i64 1 w-1)=((2^w.toNat-1:Nat):Int):=by
  rcases w_cases h with rfl|rfl|rfl|rfl|rfl|rfl|rfl|rfl<;>decide
theorem mask_mod {w:Int}(h:1≤w∧w≤8)(x:Int):bitsI .and .i64 x (IntKind.i64.wrap (shlI IntKind.i64 1 w-1))=x % sz w:=by
  rw[mask_eq h,bitsI_mask x (by omega),sz_nat]
/-! ### What a term makes of values-/
def opV(w o a b:Int):Int:=
  if o=3 then sz w-1-a else if o=4 then(sz w-a)% sz w else if o=5 then(a+b)% sz w else if o=6 then(a-b+sz w)% sz w else if o=7 then a*b % sz w
  else if o=8 then a/b else if o=9 then a % b else if o=10 then((a.toNat&&&b.toNat:Nat):Int)else if o=11 then((a.toNat|||b.toNat:Nat):Int)else if o=12 then((a.toNat^^^b.toNat:Nat):Int)
  else if o=13 then a*2^b.toNat % sz w else if o=14 then a/2^b.toNat else if o=15 then(if a=b then 1 else 0)else(if a<b then 1 else 0)
def Vl(w a:Int):Prop:=0≤a∧a<sz w
theorem Vl.nat {w a:Int}(h:Vl w a):∃n:Nat,a=n∧n<2^w.toNat:=by
  obtain⟨h1,h2⟩:=h;rw[sz_nat]at h2;exact⟨a.toNat,by omega,by omega⟩
theorem Vl.mod {w:Int}(h:1≤w∧w≤8)(x:Int):Vl w (x % sz w):=by
  have:=sz_bd h;exact⟨Int.emod_nonneg _ (by omega),Int.emod_lt_of_pos _ (by omega)⟩
theorem shift_zero {w a b:Int}(ha:Vl w a)(hb:w≤b):a*2^b.toNat % sz w=0∧a/2^b.toNat=0:=by
  have e:(2:Int)^b.toNat=sz w*2^(b.toNat-w.toNat):=by
    unfold sz;rw[←Int.pow_add,show w.toNat+(b.toNat-w.toNat)=b.toNat by omega]
  have h1:=pow_one_le (b.toNat-w.toNat);have h2:sz w≤(2:Int)^b.toNat:=by
    rw[e];have:=Int.mul_le_mul_of_nonneg_left h1 (show 0≤sz w by have:=ha.1;have:=ha.2;omega);omega
  refine⟨?_,Int.ediv_eq_zero_of_lt ha.1 (by have:=ha.2;omega)⟩;rw[e,←Int.mul_assoc,Int.mul_comm a,Int.mul_assoc];exact Int.mul_emod_right _ _
theorem opV_vl {w o a b:Int}(h:1≤w∧w≤8)(ha:Vl w a)(hb:Vl w b):Vl w (opV w o a b):=by
  have hs:=sz_bd h;obtain⟨n,rfl,hn⟩:=ha.nat;obtain⟨m,rfl,hm⟩:=hb.nat;have h1:=ha.2;have h2:=hb.2;have V:∀x:Nat,x<2^w.toNat→Vl w (x:Int):=fun x hx=>⟨by omega,by rw[sz_nat];omega⟩
  unfold opV;by_cases c:o=3
  . rw[if_pos c];exact⟨by omega,by omega⟩
  rw[if_neg c];by_cases c:o=4
  . rw[if_pos c];exact .mod h _
  rw[if_neg c];by_cases c:o=5
  . rw[if_pos c];exact .mod h _
  rw[if_neg c];by_cases c:o=6
  . rw[if_pos c];exact .mod h _
  rw[if_neg c];by_cases c:o=7
  . rw[if_pos c];exact .mod h _
  rw[if_neg c];by_cases c:o=8
  . rw[if_pos c];exact⟨Int.ediv_nonneg (by omega) (by omega),Int.lt_of_le_of_lt (Int.ediv_le_self _ (by omega)) h1⟩
  rw[if_neg c];by_cases c:o=9
  . rw[if_pos c];rcases Nat.eq_zero_or_pos m with rfl|hm0
    . rw[show((0:Nat):Int)=0 from rfl,Int.emod_zero];exact ha
    . have:=Int.emod_lt_of_pos (n:Int) (show(0:Int)<m by omega);exact⟨Int.emod_nonneg _ (by omega),by omega⟩
  rw[if_neg c];by_cases c:o=10
  . rw[if_pos c,zt,zt];exact V _ (Nat.and_lt_two_pow n hm)
  rw[if_neg c];by_cases c:o=11
  . rw[if_pos c,zt,zt];exact V _ (Nat.or_lt_two_pow hn hm)
  rw[if_neg c];by_cases c:o=12
  . rw[if_pos c,zt,zt];exact V _ (Nat.xor_lt_two_pow hn hm)
  rw[if_neg c];by_cases c:o=13
  . rw[if_pos c];exact .mod h _
  rw[if_neg c];by_cases c:o=14
  . rw[if_pos c];have:=pow_one_le (m:Int).toNat;exact⟨Int.ediv_nonneg (by omega) (by omega),Int.lt_of_le_of_lt (Int.ediv_le_self _ (by omega)) h1⟩
  rw[if_neg c];by_cases c:o=15
  . rw[if_pos c];by_cases e:(n:Int)=m
    . rw[if_pos e];exact⟨by omega,by omega⟩
    . rw[if_neg e];exact⟨by omega,by omega⟩
  rw[if_neg c];by_cases e:(n:Int)<m
  . rw[if_pos e];exact⟨by omega,by omega⟩
  . rw[if_neg e];exact⟨by omega,by omega⟩
theorem truth_ans(x:Bool):Ans n_impl_truth s_impl_truth (x,()) ((bif x then 1 else 0,()),()):=by
  refine Gv.ans (Gv.of (fun k=>impl_truth.F_eq (cl k) k x) ?_);unfold impl_truth.F impl_truth.Fm;cases x<;>exact Tq.ret rfl
theorem bit_ans(x:Bool):Ans n_spec_l5Bit s_spec_l5Bit (x,()) ((bif x then 1 else 0,()),()):=by
  refine Gv.ans (Gv.of (fun k=>spec_l5Bit.F_eq (cl k) k x) ?_);unfold spec_l5Bit.F spec_l5Bit.Fm;cases x<;>exact Tq.ret rfl
theorem bif_eq(a b:Int):(bif a==b then(1:Int)else 0)=if a=b then 1 else 0:=by
  by_cases h:a=b
  . rw[if_pos h,beq_iff_eq.2 h];rfl
  . rw[if_neg h,beq_eq_false_iff_ne.2 h];rfl
theorem bif_lt(a b:Int):(bif decide (a<b)then(1:Int)else 0)=if a<b then 1 else 0:=by
  by_cases h:a<b
  . rw[if_pos h,decide_eq_true h];rfl
  . rw[if_neg h,decide_eq_false h];rfl
theorem join_ans {w o a b:Int}(h:1≤w∧w≤8)(ha:Vl w a)(hb:Vl w b)(ho:5≤o∧o≤16)(hd:o=8∨o=9→b≠0):Ans n_impl_join s_impl_join (w,o,a,b,()) ((opV w o a b,()),()):=by
  have hs:=sz_bd h;have h32:2^w.toNat≤2^8:=Nat.pow_le_pow_right (by omega) (by omega);have n1:=ha.nat;have n2:=hb.nat;obtain⟨a1,a2⟩:=ha;obtain⟨b1,b2⟩:=hb;have hm:0≤a*b∧a*b≤65536:=by
    have x1:=Int.mul_nonneg a1 b1;have x2:=Int.mul_le_mul (show a≤256 by omega) (show b≤256 by omega) b1 (by omega);omega
  refine Gv.ans (Gv.of (fun k=>impl_join.F_eq (cl k) k w o a b) ?_);unfold impl_join.F impl_join.Fm;simp only[mask_mod h];rcases(by omega:o=5∨o=6∨o=7∨o=8∨o=9∨o=10∨o=11∨o=12∨o=13∨o=14∨o=15∨o=16)with rfl|rfl|rfl|rfl|rfl|rfl|rfl|rfl|rfl|rfl|rfl|rfl
  . repeat'((first|refine .t ?_|refine .u ?_|refine .some lg0 ?_|refine .some lg ?_|refine .some lgI ?_|(refine .bif (fun zz=>?_) (fun zz=>?_)<;>try simp(disch:=omega)only[zs,w64,zt]at zz))<;>try dsimp only)
    refine Tq.ret (ret1 ?_);show _=(a+b)% sz w
    simp(disch:=omega)only[w64]
  . repeat'((first|refine .t ?_|refine .u ?_|refine .some lg0 ?_|refine .some lg ?_|refine .some lgI ?_|(refine .bif (fun zz=>?_) (fun zz=>?_)<;>try simp(disch:=omega)only[zs,w64,zt]at zz))<;>try dsimp only)
    refine Tq.ret (ret1 ?_);show _=(a-b+sz w)% sz w
    rw[w64 (by omega) (by omega)];exact(Int.add_emod_right _ _).symm
  . repeat'((first|refine .t ?_|refine .u ?_|refine .some lg0 ?_|refine .some lg ?_|refine .some lgI ?_|(refine .bif (fun zz=>?_) (fun zz=>?_)<;>try simp(disch:=omega)only[zs,w64,zt]at zz))<;>try dsimp only)
    refine Tq.ret (ret1 ?_);show _=a*b % sz w
    rw[w64 (by omega) (by omega)]
  . repeat'((first|refine .t ?_|refine .u ?_|refine .some lg0 ?_|refine .some lg ?_|refine .some lgI ?_|(refine .bif (fun zz=>?_) (fun zz=>?_)<;>try simp(disch:=omega)only[zs,w64,zt]at zz))<;>try dsimp only)
    refine Tq.ret (ret1 ?_);have:=Int.ediv_nonneg a1 b1;have:=Int.ediv_le_self b a1;rw[Int.tdiv_eq_ediv_of_nonneg a1,w64 (by omega) (by omega)];rfl
  . repeat'((first|refine .t ?_|refine .u ?_|refine .some lg0 ?_|refine .some lg ?_|refine .some lgI ?_|(refine .bif (fun zz=>?_) (fun zz=>?_)<;>try simp(disch:=omega)only[zs,w64,zt]at zz))<;>try dsimp only)
    refine Tq.ret (ret1 ?_);rw[Int.tmod_eq_emod_of_nonneg a1];rfl
  . repeat'((first|refine .t ?_|refine .u ?_|refine .some lg0 ?_|refine .some lg ?_|refine .some lgI ?_|(refine .bif (fun zz=>?_) (fun zz=>?_)<;>try simp(disch:=omega)only[zs,w64,zt]at zz))<;>try dsimp only)
    refine Tq.ret (ret1 ?_);obtain⟨n,rfl,hn⟩:=n1;obtain⟨m,rfl,hm⟩:=n2;rw[bitsI_and (by omega) (by omega)];rfl
  . repeat'((first|refine .t ?_|refine .u ?_|refine .some lg0 ?_|refine .some lg ?_|refine .some lgI ?_|(refine .bif (fun zz=>?_) (fun zz=>?_)<;>try simp(disch:=omega)only[zs,w64,zt]at zz))<;>try dsimp only)
    refine Tq.ret (ret1 ?_);obtain⟨n,rfl,hn⟩:=n1;obtain⟨m,rfl,hm⟩:=n2;rw[bitsI_orN (by omega) (by omega)];rfl
  . repeat'((first|refine .t ?_|refine .u ?_|refine .some lg0 ?_|refine .some lg ?_|refine .some lgI ?_|(refine .bif (fun zz=>?_) (fun zz=>?_)<;>try simp(disch:=omega)only[zs,w64,zt]at zz))<;>try dsimp only)
    refine Tq.ret (ret1 ?_);obtain⟨n,rfl,hn⟩:=n1;obtain⟨m,rfl,hm⟩:=n2;rw[bitsI_xor (by omega) (by omega)];rfl
  . repeat'((first|refine .t ?_|refine .u ?_|refine .some lg0 ?_|refine .some lg ?_|refine .some lgI ?_|(refine .bif (fun zz=>?_) (fun zz=>?_)<;>try simp(disch:=omega)only[zs,w64,zt]at zz))<;>try dsimp only)
    . refine Tq.ret (ret1 ?_);exact(shift_zero ⟨a1,a2⟩ (by omega)).1.symm
    . refine Tq.ret (ret1 ?_);have hp:(2:Int)^b.toNat≤256:=by
        rcases(by omega:b.toNat=0∨b.toNat=1∨b.toNat=2∨b.toNat=3∨b.toNat=4∨b.toNat=5∨b.toNat=6∨b.toNat=7)with e|e|e|e|e|e|e|e<;>rw[e]<;>decide
      have hq:=pow_one_le b.toNat;have x1:=Int.mul_nonneg a1 (show 0≤(2:Int)^b.toNat by omega);have x2:=Int.mul_le_mul (show a≤256 by omega) hp (by omega) (by omega);unfold shlI;rw[show min b.toNat IntKind.i64.bits=b.toNat from Nat.min_eq_left (by show b.toNat≤64;omega),w64 (by omega) (by omega)];rfl
  . repeat'((first|refine .t ?_|refine .u ?_|refine .some lg0 ?_|refine .some lg ?_|refine .some lgI ?_|(refine .bif (fun zz=>?_) (fun zz=>?_)<;>try simp(disch:=omega)only[zs,w64,zt]at zz))<;>try dsimp only)
    . refine Tq.ret (ret1 ?_);exact(shift_zero ⟨a1,a2⟩ (by omega)).2.symm
    . refine Tq.ret (ret1 ?_);have hq:=pow_one_le b.toNat;unfold shrI;rw[show min b.toNat IntKind.i64.bits=b.toNat from Nat.min_eq_left (by show b.toNat≤64;omega),Int.fdiv_eq_ediv_of_nonneg _ (by omega)];rfl
  . repeat'((first|refine .ba (truth_ans _) ?_|refine .t ?_|refine .u ?_|refine .some lg0 ?_|refine .some lg ?_|refine .some lgI ?_|(refine .bif (fun zz=>?_) (fun zz=>?_)<;>try simp(disch:=omega)only[zs,w64,zt]at zz))<;>try dsimp only)
    exact Tq.ret (ret1 (bif_eq a b))
  . repeat'((first|refine .ba (truth_ans _) ?_|refine .t ?_|refine .u ?_|refine .some lg0 ?_|refine .some lg ?_|refine .some lgI ?_|(refine .bif (fun zz=>?_) (fun zz=>?_)<;>try simp(disch:=omega)only[zs,w64,zt]at zz))<;>try dsimp only)
    exact Tq.ret (ret1 (bif_lt a b))
theorem turn_ans {w o a:Int}(h:1≤w∧w≤8)(ha:Vl w a)(ho:o=3∨o=4):Ans n_impl_turn s_impl_turn (w,o,a,()) ((opV w o a 0,()),()):=by
  have hs:=sz_bd h;obtain⟨a1,a2⟩:=ha;refine Gv.ans (Gv.of (fun k=>impl_turn.F_eq (cl k) k w o a) ?_);unfold impl_turn.F impl_turn.Fm;simp only[mask_mod h];rcases ho with rfl|rfl
  . repeat'((first|refine .t ?_|refine .u ?_|refine .some lg0 ?_|refine .some lg ?_|refine .some lgI ?_|(refine .bif (fun zz=>?_) (fun zz=>?_)<;>try simp(disch:=omega)only[zs,w64,zt]at zz))<;>try dsimp only)
    refine Tq.ret (ret1 ?_);have e:bitsI BinOp.xor IntKind.i64 (if IntKind.i64.signed=true then -1 else IntKind.i64.max) a= -1-a:=by
      obtain⟨n,rfl⟩:∃n:Nat,a=n:=⟨a.toNat,by omega⟩
      show IntKind.i64.wrap (((BitVec.ofInt 64 (-1))^^^(BitVec.ofInt 64 (n:Int))).toNat:Int)=_
      rw[show BitVec.ofInt 64 (-1)=BitVec.allOnes 64 from rfl,BitVec.allOnes_xor,BitVec.ofInt_natCast,BitVec.toNat_not,BitVec.toNat_ofNat,Nat.mod_eq_of_lt (by omega)];rw[show((2^64-1-n:Nat):Int)= -1-n+18446744073709551616 by omega];simp only[IntKind.wrap,IntKind.bits,IntKind.signed,Bool.true_and];split
      . omega
      . rename_i h;have h:¬((-1-(n:Int)+18446744073709551616)% 2^64≥2^(64-1)):=fun e=>h (decide_eq_true e)
        omega
    rw[e];show(-1-a)% sz w=sz w-1-a
    rw[←Int.add_emod_right,Int.emod_eq_of_lt (by omega) (by omega)];omega
  . repeat'((first|refine .t ?_|refine .u ?_|refine .some lg0 ?_|refine .some lg ?_|refine .some lgI ?_|(refine .bif (fun zz=>?_) (fun zz=>?_)<;>try simp(disch:=omega)only[zs,w64,zt]at zz))<;>try dsimp only)
    refine Tq.ret (ret1 ?_);rw[w64 (by omega) (by omega)];show(0-a)% sz w=(sz w-a)% sz w
    rw[←Int.add_emod_right,show 0-a+sz w=sz w-a by omega]
/-! ### The reference-/
def bz(f:Nat→Nat→Nat):Nat→Nat→Nat→Nat
  |0,_,_=>0
  |n+1,a,b=>f (a % 2) (b % 2)+2*bz f n (a/2) (b/2)
theorem bz_and:∀(n a b:Nat),a<2^n→b<2^n→bz (· * ·) n a b=a&&&b
  | 0,a,b,ha,hb=>by
    obtain rfl:a=0:=by omega
    exact(Nat.zero_and b).symm
  | n +1,a,b,ha,hb=>by
    rw[Nat.pow_succ]at ha hb;rw[bz,bz_and n _ _ (by omega) (by omega),←Nat.and_div_two];have:a % 2*(b % 2)=(a&&&b)% 2:=by
      have e:=Nat.and_mod_two_pow (a:=a) (b:=b) (n:=1);rw[Nat.pow_one]at e;rw[e];rcases Nat.mod_two_eq_zero_or_one a with h1|h1<;>rcases Nat.mod_two_eq_zero_or_one b with h2|h2<;>rw[h1,h2]<;>rfl
    omega
theorem bz_or:∀(n a b:Nat),a<2^n→b<2^n→bz max n a b=a|||b
  | 0,a,b,ha,hb=>by
    obtain rfl:a=0:=by omega
    obtain rfl:b=0:=by omega
    rfl
  | n +1,a,b,ha,hb=>by
    rw[Nat.pow_succ]at ha hb;rw[bz,bz_or n _ _ (by omega) (by omega),←Nat.or_div_two];have:max (a % 2) (b % 2)=(a|||b)% 2:=by
      have e:=Nat.or_mod_two_pow (a:=a) (b:=b) (n:=1);rw[Nat.pow_one]at e;rw[e];rcases Nat.mod_two_eq_zero_or_one a with h1|h1<;>rcases Nat.mod_two_eq_zero_or_one b with h2|h2<;>rw[h1,h2]<;>rfl
    omega
theorem bz_xor:∀(n a b:Nat),a<2^n→b<2^n→bz (fun x y=>(x+y)% 2) n a b=a^^^b
  | 0,a,b,ha,hb=>by
    obtain rfl:a=0:=by omega
    obtain rfl:b=0:=by omega
    rfl
  | n +1,a,b,ha,hb=>by
    rw[Nat.pow_succ]at ha hb;rw[bz,bz_xor n _ _ (by omega) (by omega),←Nat.xor_div_two];have:(a % 2+b % 2)% 2=(a^^^b)% 2:=by
      have e:=Nat.xor_mod_two_pow (a:=a) (b:=b) (n:=1);rw[Nat.pow_one]at e;rw[e];rcases Nat.mod_two_eq_zero_or_one a with h1|h1<;>rcases Nat.mod_two_eq_zero_or_one b with h2|h2<;>rw[h1,h2]<;>rfl
    omega
def zf(h:Int)(x y:Nat):Nat:=if h=1 then max x y else if h=2 then(x+y)% 2 else x*y
theorem tdm(a i:Nat)(ha:a<2^8):(IntKind.i64.wrap (Int.tdiv (a:Int) ((2:Int)^i))).tmod 2=((a/2^i % 2:Nat):Int):=by
  have l1:=Nat.div_le_self a (2^i);have pc:(2:Int)^i=((2^i:Nat):Int):=by rw[Int.natCast_pow];rfl
  rw[Int.tdiv_eq_ediv_of_nonneg (by omega),pc,←Int.natCast_ediv];generalize a/2^i=x at*;rw[w64 (by omega) (by omega),Int.tmod_eq_emod_of_nonneg (by omega)];omega
theorem bits_loop {w:Int}(hw:1≤w∧w≤8){a b:Nat}(ha:a<2^w.toNat)(hb:b<2^w.toNat){how:Int}(hh:how=0∨how=1∨how=2):∀(d i:Nat)(n:Nat),w.toNat-i=d→i≤w.toNat→n<2^i→
    Tq (d+1) (fun k q=>spec_l5Bits.L0 (cl k) k (sz w) a b how q (n:Int) ((2:Int)^i)) (· =((((n+2^i*bz (zf how) d (a/2^i) (b/2^i):Nat):Int),()),())):=by
  have h8:2^w.toNat≤2^8:=Nat.pow_le_pow_right (by omega) (by omega);have hc:=sz_nat w;intro d
  induction d with
  | zero=>
    intro i n hd hi hn;obtain rfl:i=w.toNat:=by omega
    refine Tq.succ ?_;show Tq _ (fun k q=>spec_l5Bits.step0 (cl k) k ..) _
    unfold spec_l5Bits.step0;refine Tq.bf (decide_eq_false (by unfold sz;omega)) (Tq.ret ?_);rw[show bz (zf how) 0 (a/2^w.toNat) (b/2^w.toNat)=0 from rfl,Nat.mul_zero,Nat.add_zero]
  | succ d ih=>
    intro i n hd hi hn;have hi:i<w.toNat:=by omega
    have p1:2^(i+1)≤2^w.toNat:=Nat.pow_le_pow_right (by omega) hi;have p0:0<2^i:=Nat.pow_pos (by omega);have p2:=Nat.pow_succ (n:=2) (m:=i);have pc:(2:Int)^i=((2^i:Nat):Int):=by rw[Int.natCast_pow];rfl
    have e1:=tdm a i (by omega);have e2:=tdm b i (by omega);refine Tq.succ ?_;show Tq _ (fun k q=>spec_l5Bits.step0 (cl k) k ..) _
    unfold spec_l5Bits.step0;rw[e1,e2];have z1:=Nat.mod_lt (a/2^i) (show 0<2 by omega);have z2:=Nat.mod_lt (b/2^i) (show 0<2 by omega);have key:∀z:Nat,z=zf how (a/2^i % 2) (b/2^i % 2)→z<2→
        Tq (d+1) (fun k q=>spec_l5Bits.L0 (cl k) k (sz w) a b how q (IntKind.i64.wrap ((n:Int)+IntKind.i64.wrap ((z:Int)*(2:Int)^i))) (IntKind.i64.wrap ((2:Int)^i*2))) (· =((((n+2^i*bz (zf how) (d+1) (a/2^i) (b/2^i):Nat):Int),()),())):=by
      intro z hz hz2;have zz:z*2^i≤2^i:=by
        rcases(by omega:z=0∨z=1)with rfl|rfl<;>omega
      rw[pc,←Int.natCast_mul,w64 (x:=((z*2^i:Nat):Int)) (by omega) (by omega),w64 (by omega) (by omega),w64 (by omega) (by omega)];rw[show((n:Int)+((z*2^i:Nat):Int))=((n+z*2^i:Nat):Int) by omega,show((2^i:Nat):Int)*2=(2:Int)^(i+1) by rw[Int.pow_succ,pc]];have:=ih (i+1) (n+z*2^i) (by omega) (by omega) (by omega);rw[Nat.pow_succ,←Nat.div_div_eq_div_mul,←Nat.div_div_eq_div_mul]at this;rw[show bz (zf how) (d+1) (a/2^i) (b/2^i)=zf how (a/2^i % 2) (b/2^i % 2)+2*bz (zf how) d (a/2^i/2) (b/2^i/2)from rfl,←hz,Nat.mul_add,←Nat.add_assoc,Nat.mul_comm (2^i) z,←Nat.mul_assoc];exact this
    rcases hh with rfl|rfl|rfl
    . repeat'((first|refine .t ?_|refine .u ?_|refine .some lg0 ?_|refine .some lg ?_|refine .some lgI ?_|(refine .bif (fun zz=>?_) (fun zz=>?_)<;>try simp(disch:=omega)only[zs,w64,zt]at zz))<;>try dsimp only)
      have m1:0≤((a/2^i % 2*(b/2^i % 2):Nat):Int):=by omega
      have m2:a/2^i % 2*(b/2^i % 2)<2:=by
        rcases Nat.mod_two_eq_zero_or_one (a/2^i)with h1|h1<;>rcases Nat.mod_two_eq_zero_or_one (b/2^i)with h2|h2<;>rw[h1,h2]<;>decide
      rw[←Int.natCast_mul,w64 (x:=((a/2^i % 2*(b/2^i % 2):Nat):Int)) (by omega) (by omega)];exact key _ rfl m2
    . repeat'((first|refine .ba (l1Max_ans _ _) ?_|refine .t ?_|refine .u ?_|refine .some lg0 ?_|refine .some lg ?_|refine .some lgI ?_|(refine .bif (fun zz=>?_) (fun zz=>?_)<;>try simp(disch:=omega)only[zs,w64,zt]at zz))<;>try dsimp only)
      rw[show max ((a/2^i % 2:Nat):Int) ((b/2^i % 2:Nat):Int)=((max (a/2^i % 2) (b/2^i % 2):Nat):Int) by omega];exact key _ rfl (by omega)
    . repeat'((first|refine .t ?_|refine .u ?_|refine .some lg0 ?_|refine .some lg ?_|refine .some lgI ?_|(refine .bif (fun zz=>?_) (fun zz=>?_)<;>try simp(disch:=omega)only[zs,w64,zt]at zz))<;>try dsimp only)
      rw[w64 (x:=((a/2^i % 2:Nat):Int)+((b/2^i % 2:Nat):Int)) (by omega) (by omega),Int.tmod_eq_emod_of_nonneg (by omega),show(((a/2^i % 2:Nat):Int)+((b/2^i % 2:Nat):Int))% 2=(((a/2^i % 2+b/2^i % 2)% 2:Nat):Int) by omega];exact key _ rfl (by omega)
theorem bits_ans {w:Int}(hw:1≤w∧w≤8){a b:Int}(ha:Vl w a)(hb:Vl w b){how:Int}(hh:how=0∨how=1∨how=2):
    Ans n_spec_l5Bits s_spec_l5Bits (sz w,a,b,how,()) ((((bz (zf how) w.toNat a.toNat b.toNat:Nat):Int),()),()):=by
  obtain⟨n,rfl,hn⟩:=ha.nat;obtain⟨m,rfl,hm⟩:=hb.nat;refine Gv.ans (Gv.of (fun k=>spec_l5Bits.F_eq (cl k) k (sz w) n m how) ?_);unfold spec_l5Bits.F spec_l5Bits.Fm;have:=bits_loop hw hn hm hh w.toNat 0 0 rfl (by omega) (by omega);rw[Nat.pow_zero,Nat.div_one,Nat.div_one,Nat.one_mul,Nat.zero_add]at this;exact Tq.diag this
theorem up_loop {w:Int}(hw:1≤w∧w≤8):∀(j:Nat)(a:Int),j≤1000→Vl w a→Tq (j+1) (fun k q=>spec_l5Shift.L0 (cl k) k (sz w) true q a (j:Int)) (· =((a*2^j % sz w,()),())):=by
  have hs:=sz_bd hw;intro j
  induction j with
  | zero=>
    intro a hj ha;refine Tq.succ ?_;show Tq _ (fun k q=>spec_l5Shift.step0 (cl k) k ..) _
    unfold spec_l5Shift.step0
    repeat'((first|refine .t ?_|refine .u ?_|refine .some lg0 ?_|refine .some lg ?_|refine .some lgI ?_|(refine .bif (fun zz=>?_) (fun zz=>?_)<;>try simp(disch:=omega)only[zs,w64,zt]at zz))<;>try dsimp only)
    refine Tq.ret (ret1 ?_);rw[Int.pow_zero,Int.mul_one,Int.emod_eq_of_lt ha.1 ha.2]
  | succ j ih=>
    intro a hj ha;have h1:=ha.1;have h2:=ha.2;refine Tq.succ ?_;show Tq _ (fun k q=>spec_l5Shift.step0 (cl k) k ..) _
    unfold spec_l5Shift.step0
    repeat'((first|refine .t ?_|refine .u ?_|refine .some lg0 ?_|refine .some lg ?_|refine .some lgI ?_|(refine .bif (fun zz=>?_) (fun zz=>?_)<;>try simp(disch:=omega)only[zs,w64,zt]at zz))<;>try dsimp only)
    . rw[w64 (x:=a*2) (by omega) (by omega),Int.tmod_eq_emod_of_nonneg (by omega),w64 (by omega) (by omega),show((j+1:Nat):Int)-1=(j:Int) by omega];have:=ih (a*2 % sz w) (by omega) (.mod hw _);rw[show a*2^(j+1)% sz w=a*2 % sz w*2^j % sz w by rw[Int.pow_succ,Int.mul_comm (2^j) 2,←Int.mul_assoc,Int.mul_emod (a*2 % sz w),Int.emod_emod,←Int.mul_emod]];exact this
    . refine Tq.ret (ret1 ?_);obtain rfl:a=0:=by omega
      rw[Int.zero_mul,Int.zero_emod]
theorem down_loop {w:Int}:∀(j:Nat)(a:Int),j≤1000→0≤a∧a≤256→Tq (j+1) (fun k q=>spec_l5Shift.L0 (cl k) k (sz w) false q a (j:Int)) (· =((a/2^j,()),())):=by
  intro j
  induction j with
  | zero=>
    intro a hj ha;refine Tq.succ ?_;show Tq _ (fun k q=>spec_l5Shift.step0 (cl k) k ..) _
    unfold spec_l5Shift.step0
    repeat'((first|refine .t ?_|refine .u ?_|refine .some lg0 ?_|refine .some lg ?_|refine .some lgI ?_|(refine .bif (fun zz=>?_) (fun zz=>?_)<;>try simp(disch:=omega)only[zs,w64,zt]at zz))<;>try dsimp only)
    exact Tq.ret (ret1 (by rw[Int.pow_zero,Int.ediv_one]))
  | succ j ih=>
    intro a hj ha;refine Tq.succ ?_;show Tq _ (fun k q=>spec_l5Shift.step0 (cl k) k ..) _
    unfold spec_l5Shift.step0
    repeat'((first|refine .t ?_|refine .u ?_|refine .some lg0 ?_|refine .some lg ?_|refine .some lgI ?_|(refine .bif (fun zz=>?_) (fun zz=>?_)<;>try simp(disch:=omega)only[zs,w64,zt]at zz))<;>try dsimp only)
    . rw[Int.tdiv_eq_ediv_of_nonneg ha.1,w64 (x:=a/2) (by omega) (by omega),w64 (by omega) (by omega),show((j+1:Nat):Int)-1=(j:Int) by omega];have:=ih (a/2) (by omega) (by omega);rw[show a/2^(j+1)=a/2/2^j by rw[Int.pow_succ,Int.mul_comm (2^j) 2,Int.ediv_ediv,if_neg (by omega),Int.sub_zero]];exact this
    . refine Tq.ret (ret1 ?_);obtain rfl:a=0:=by omega
      rw[Int.zero_ediv]
theorem up_ans {w:Int}(hw:1≤w∧w≤8){a b:Int}(ha:Vl w a)(hb:Vl w b):Ans n_spec_l5Shift s_spec_l5Shift (sz w,a,b,true,()) ((a*2^b.toNat % sz w,()),()):=by
  have hs:=sz_bd hw;obtain⟨m,rfl,hm⟩:=hb.nat;have:=hb.2;refine Gv.ans (Gv.of (fun k=>spec_l5Shift.F_eq (cl k) k (sz w) a m true) ?_);unfold spec_l5Shift.F spec_l5Shift.Fm;exact Tq.diag (up_loop hw m a (by omega) ha)
theorem down_ans {w:Int}(hw:1≤w∧w≤8){a b:Int}(ha:Vl w a)(hb:Vl w b):Ans n_spec_l5Shift s_spec_l5Shift (sz w,a,b,false,()) ((a/2^b.toNat,()),()):=by
  have hs:=sz_bd hw;have h1:=ha.1;have h2:=ha.2;obtain⟨m,rfl,hm⟩:=hb.nat;have:=hb.2;refine Gv.ans (Gv.of (fun k=>spec_l5Shift.F_eq (cl k) k (sz w) a m false) ?_);unfold spec_l5Shift.F spec_l5Shift.Fm;exact Tq.diag (down_loop m a (by omega) (by omega))
theorem opS_ans {w o a b:Int}(h:1≤w∧w≤8)(ha:Vl w a)(hb:Vl w b)(ho:3≤o∧o≤16):Ans n_spec_l5Op s_spec_l5Op (sz w,o,a,b,()) ((if(o=8∨o=9)∧b=0 then 0 else opV w o a b,()),()):=by
  have hs:=sz_bd h;have n1:=ha.nat;have n2:=hb.nat;have c10:=bits_ans h ha hb (how:=0) (by omega);have c11:=bits_ans h ha hb (how:=1) (by omega);have c12:=bits_ans h ha hb (how:=2) (by omega);have c13:=up_ans h ha hb;have c14:=down_ans h ha hb;obtain⟨a1,a2⟩:=ha;obtain⟨b1,b2⟩:=hb;have hm:0≤a*b∧a*b≤65536:=by
    have x1:=Int.mul_nonneg a1 b1;have x2:=Int.mul_le_mul (show a≤256 by omega) (show b≤256 by omega) b1 (by omega);omega
  refine Gv.ans (Gv.of (fun k=>spec_l5Op.F_eq (cl k) k (sz w) o a b) ?_);unfold spec_l5Op.F spec_l5Op.Fm;rcases(by omega:o=3∨o=4∨o=5∨o=6∨o=7∨o=8∨o=9∨o=10∨o=11∨o=12∨o=13∨o=14∨o=15∨o=16)with rfl|rfl|rfl|rfl|rfl|rfl|rfl|rfl|rfl|rfl|rfl|rfl|rfl|rfl
  . repeat'((first|refine .t ?_|refine .u ?_|refine .some lg0 ?_|refine .some lg ?_|refine .some lgI ?_|(refine .bif (fun zz=>?_) (fun zz=>?_)<;>try simp(disch:=omega)only[zs,w64,zt]at zz))<;>try dsimp only)
    refine Tq.ret (ret1 ?_);rw[if_neg (by omega)];show _=sz w-1-a
    rw[w64 (x:=sz w-1) (by omega) (by omega),w64 (by omega) (by omega)]
  . repeat'((first|refine .t ?_|refine .u ?_|refine .some lg0 ?_|refine .some lg ?_|refine .some lgI ?_|(refine .bif (fun zz=>?_) (fun zz=>?_)<;>try simp(disch:=omega)only[zs,w64,zt]at zz))<;>try dsimp only)
    refine Tq.ret (ret1 ?_);rw[if_neg (by omega)];show _=(sz w-a)% sz w
    rw[w64 (by omega) (by omega),Int.tmod_eq_emod_of_nonneg (by omega)]
  . repeat'((first|refine .t ?_|refine .u ?_|refine .some lg0 ?_|refine .some lg ?_|refine .some lgI ?_|(refine .bif (fun zz=>?_) (fun zz=>?_)<;>try simp(disch:=omega)only[zs,w64,zt]at zz))<;>try dsimp only)
    refine Tq.ret (ret1 ?_);rw[if_neg (by omega)];show _=(a+b)% sz w
    rw[w64 (by omega) (by omega),Int.tmod_eq_emod_of_nonneg (by omega)]
  . repeat'((first|refine .t ?_|refine .u ?_|refine .some lg0 ?_|refine .some lg ?_|refine .some lgI ?_|(refine .bif (fun zz=>?_) (fun zz=>?_)<;>try simp(disch:=omega)only[zs,w64,zt]at zz))<;>try dsimp only)
    refine Tq.ret (ret1 ?_);rw[if_neg (by omega)];show _=(a-b+sz w)% sz w
    rw[w64 (x:=a-b) (by omega) (by omega),w64 (by omega) (by omega),Int.tmod_eq_emod_of_nonneg (by omega)]
  . repeat'((first|refine .t ?_|refine .u ?_|refine .some lg0 ?_|refine .some lg ?_|refine .some lgI ?_|(refine .bif (fun zz=>?_) (fun zz=>?_)<;>try simp(disch:=omega)only[zs,w64,zt]at zz))<;>try dsimp only)
    refine Tq.ret (ret1 ?_);rw[if_neg (by omega)];show _=a*b % sz w
    rw[w64 (by omega) (by omega),Int.tmod_eq_emod_of_nonneg (by omega)]
  . repeat'((first|refine .t ?_|refine .u ?_|refine .some lg0 ?_|refine .some lg ?_|refine .some lgI ?_|(refine .bif (fun zz=>?_) (fun zz=>?_)<;>try simp(disch:=omega)only[zs,w64,zt]at zz))<;>try dsimp only)
    . refine Tq.ret (ret1 ?_);rw[if_pos ⟨.inl rfl,by assumption⟩]
    . refine Tq.ret (ret1 ?_);have:=Int.ediv_nonneg a1 b1;have:=Int.ediv_le_self b a1;rw[if_neg (fun e=>absurd e.2 (by assumption)),Int.tdiv_eq_ediv_of_nonneg a1,w64 (by omega) (by omega)];rfl
  . repeat'((first|refine .t ?_|refine .u ?_|refine .some lg0 ?_|refine .some lg ?_|refine .some lgI ?_|(refine .bif (fun zz=>?_) (fun zz=>?_)<;>try simp(disch:=omega)only[zs,w64,zt]at zz))<;>try dsimp only)
    . refine Tq.ret (ret1 ?_);rw[if_pos ⟨.inr rfl,by assumption⟩]
    . refine Tq.ret (ret1 ?_);rw[if_neg (fun e=>absurd e.2 (by assumption)),Int.tmod_eq_emod_of_nonneg a1];rfl
  . repeat'((first|refine .ba c10 ?_|refine .t ?_|refine .u ?_|refine .some lg0 ?_|refine .some lg ?_|refine .some lgI ?_|(refine .bif (fun zz=>?_) (fun zz=>?_)<;>try simp(disch:=omega)only[zs,w64,zt]at zz))<;>try dsimp only)
    refine Tq.ret (ret1 ?_);obtain⟨n,rfl,hn⟩:=n1;obtain⟨m,rfl,hm2⟩:=n2;rw[if_neg (by omega),zt,zt,show zf 0=(· * ·)from rfl,bz_and _ _ _ hn hm2];rfl
  . repeat'((first|refine .ba c11 ?_|refine .t ?_|refine .u ?_|refine .some lg0 ?_|refine .some lg ?_|refine .some lgI ?_|(refine .bif (fun zz=>?_) (fun zz=>?_)<;>try simp(disch:=omega)only[zs,w64,zt]at zz))<;>try dsimp only)
    refine Tq.ret (ret1 ?_);obtain⟨n,rfl,hn⟩:=n1;obtain⟨m,rfl,hm2⟩:=n2;rw[if_neg (by omega),zt,zt,show zf 1=max from rfl,bz_or _ _ _ hn hm2];rfl
  . repeat'((first|refine .ba c12 ?_|refine .t ?_|refine .u ?_|refine .some lg0 ?_|refine .some lg ?_|refine .some lgI ?_|(refine .bif (fun zz=>?_) (fun zz=>?_)<;>try simp(disch:=omega)only[zs,w64,zt]at zz))<;>try dsimp only)
    refine Tq.ret (ret1 ?_);obtain⟨n,rfl,hn⟩:=n1;obtain⟨m,rfl,hm2⟩:=n2;rw[if_neg (by omega),zt,zt,show zf 2=(fun x y=>(x+y)% 2)from rfl,bz_xor _ _ _ hn hm2];rfl
  . repeat'((first|refine .ba c13 ?_|refine .t ?_|refine .u ?_|refine .some lg0 ?_|refine .some lg ?_|refine .some lgI ?_|(refine .bif (fun zz=>?_) (fun zz=>?_)<;>try simp(disch:=omega)only[zs,w64,zt]at zz))<;>try dsimp only)
    refine Tq.ret (ret1 ?_);rw[if_neg (by omega)];rfl
  . repeat'((first|refine .ba c14 ?_|refine .t ?_|refine .u ?_|refine .some lg0 ?_|refine .some lg ?_|refine .some lgI ?_|(refine .bif (fun zz=>?_) (fun zz=>?_)<;>try simp(disch:=omega)only[zs,w64,zt]at zz))<;>try dsimp only)
    refine Tq.ret (ret1 ?_);rw[if_neg (by omega)];rfl
  . repeat'((first|refine .ba (bit_ans _) ?_|refine .t ?_|refine .u ?_|refine .some lg0 ?_|refine .some lg ?_|refine .some lgI ?_|(refine .bif (fun zz=>?_) (fun zz=>?_)<;>try simp(disch:=omega)only[zs,w64,zt]at zz))<;>try dsimp only)
    refine Tq.ret (ret1 ?_);rw[if_neg (by omega)];exact bif_eq a b
  . repeat'((first|refine .ba (bit_ans _) ?_|refine .t ?_|refine .u ?_|refine .some lg0 ?_|refine .some lg ?_|refine .some lgI ?_|(refine .bif (fun zz=>?_) (fun zz=>?_)<;>try simp(disch:=omega)only[zs,w64,zt]at zz))<;>try dsimp only)
    refine Tq.ret (ret1 ?_);rw[if_neg (by omega)];exact bif_lt a b
end Go.Proofs.YtjgfofcgmcnblaaGreat.Pf
