/- Names, expressions that may stand, statements: both sides answer the same. Its conditions: width, inputs and room are right, lists are no longer than a law looks at. -/
import Derived.Test.YtjgfofcgmcnblaaGreatPfG
set_option maxHeartbeats 2000000
set_option linter.all false
namespace Go.Proofs.YtjgfofcgmcnblaaGreat.Pf
open Go Go.Pv
/-! ### Variables-/
def Ins(p:Pg):Int:=(p.2.1.length:Int)+(p.2.2.1.length:Int)
def Vrs(p:Pg):Int:=(p.2.1.length:Int)+(p.2.2.1.length:Int)+p.2.2.2.1
/--Width,inputs and room are right. -/
structure Hd (p:Pg):Prop where
  w:1≤p.1∧p.1≤8
  i:InsOk p
  r:RoomOk p
theorem Hd.b {p:Pg}(h:Hd p):(p.2.1.length≤3∧p.2.2.1.length≤3)∧(0≤p.2.2.2.1∧p.2.2.2.1≤6)∧p.2.2.2.2.1.length≤2∧p.2.2.2.2.2.1.length≤40∧2≤sz p.1∧sz p.1≤256:=by
  obtain⟨h1,⟨h2,h3⟩,⟨h4,h5⟩⟩:=h;have:=sz_bd h1;exact⟨h2,⟨h4.1,h4.2.1⟩,h4.2.2.1,h4.2.2.2,this⟩
theorem ins_ans(p:Pg)(h:Hd p):Ans n_impl_inputsOf s_impl_inputsOf (p,()) ((Ins p,()),()):=by
  have hb:=h.b;refine Gv.ans (Gv.of (fun k=>impl_inputsOf.F_eq (cl k) k p) ?_);unfold impl_inputsOf.F impl_inputsOf.Fm;rw[w64 (by omega) (by omega)];exact Tq.ret rfl
theorem vars_ans(p:Pg)(h:Hd p):Ans n_impl_varsOf s_impl_varsOf (p,()) ((Vrs p,()),()):=by
  have hb:=h.b;refine Gv.ans (Gv.of (fun k=>impl_varsOf.F_eq (cl k) k p) ?_);unfold impl_varsOf.F impl_varsOf.Fm
  repeat'((first|refine .ba (ins_ans p h) ?_|refine .t ?_|refine .u ?_|refine .some lg0 ?_|refine .some lg ?_|refine .some lgI ?_|(refine .bif (fun zz=>?_) (fun zz=>?_)<;>try simp(disch:=omega)only[zs,w64,zt]at zz))<;>try dsimp only)
  unfold Ins;rw[w64 (by omega) (by omega)];exact Tq.ret rfl
theorem l3Vars_ans(p:Pg)(h:Hd p):Ans n_spec_l3Vars s_spec_l3Vars (p,()) ((Vrs p,()),()):=by
  have hb:=h.b;refine Gv.ans (Gv.of (fun k=>spec_l3Vars.F_eq (cl k) k p) ?_);unfold spec_l3Vars.F spec_l3Vars.Fm;simp(disch:=omega)only[w64];exact Tq.ret rfl
/-! ### Names-/
def NmOk(p:Pg)(t:Tm):Prop:=(t.1=0→t.2.1<sz p.1)∧(t.1=1→t.2.1<Vrs p)∧(t.1=2→t.2.1<p.2.2.2.2.1.length)
def Names(p:Pg)(e:List Tm):Prop:=ExpOk e∧∀t∈e,NmOk p t
theorem iNames_loop(p:Pg)(h:Hd p)(a:List Tm)(ha:a.length≤3000):∀(d j:Nat),a.length-j=d→
    Tq (d+1) (fun k q=>impl_reckonable.L0 (cl k) k p a q (j:Int)) (· =((bo (∀t∈a.drop j,NmOk p t),()),())):=by
  have hb:=h.b;intro d
  induction d with
  | zero=>
    intro j hd;refine Tq.succ ?_;show Tq _ (fun k q=>impl_reckonable.step0 (cl k) k ..) _
    unfold impl_reckonable.step0
    repeat'((first|refine .t ?_|refine .u ?_|refine .some lg0 ?_|refine .some lg ?_|refine .some lgI ?_|(refine .bif (fun zz=>?_) (fun zz=>?_)<;>try simp(disch:=omega)only[zs,w64,zt]at zz))<;>try dsimp only)
    rw[bo_t (all_end (by omega))];exact Tq.ret rfl
  | succ d ih=>
    intro j hd;have hj:j<a.length:=by omega
    refine Tq.succ ?_;show Tq _ (fun k q=>impl_reckonable.step0 (cl k) k ..) _
    unfold impl_reckonable.step0;rw[bo_congr (all_drop hj)]
    repeat'((first|refine .ba (great_ans p h.w) ?_|refine .ba (vars_ans p h) ?_|refine .t ?_|refine .u ?_|refine .some lg0 ?_|refine .some lg ?_|refine .some lgI ?_|(refine .bif (fun zz=>?_) (fun zz=>?_)<;>try simp(disch:=omega)only[zs,w64,zt]at zz))<;>try dsimp only)
    all_goals first
      |(refine Tq.ret ?_;rw[bo_f];rintro⟨⟨h1,h2,h3⟩,h4⟩;first|exact absurd (h1 ‹_›) (by omega)|exact absurd (h2 ‹_›) (by omega)|exact absurd (h3 ‹_›) (by omega))
      | (simp(disch:=omega)only[w64]
         rw[bo_congr (and_iff_right ⟨by omega,by omega,by omega⟩)];exact ih (j+1) (by omega))
theorem iNames_ans(p:Pg)(h:Hd p)(a:List Tm)(ha:a.length≤1048576):Ans n_impl_reckonable s_impl_reckonable (p,a,()) ((bo (Names p a),()),()):=by
  refine Gv.ans (Gv.of (fun k=>impl_reckonable.F_eq (cl k) k p a) ?_);unfold impl_reckonable.F impl_reckonable.Fm
  repeat'((first|refine .ba (iExpOk_ans a ha) ?_|refine .t ?_|refine .u ?_|refine .some lg0 ?_|refine .some lg ?_|refine .some lgI ?_|(refine .bif (fun zz=>?_) (fun zz=>?_)<;>try simp(disch:=omega)only[zs,w64,zt]at zz))<;>try dsimp only)
  . exact Tq.ret (by rw[bo_f (P:=Names p a) (fun h=>absurd h.1 (by assumption))])
  . have hx:ExpOk a:=by assumption
    unfold Names;rw[bo_congr (and_iff_right hx)];exact Tq.diag (iNames_loop p h a hx.1 _ 0 rfl)
theorem sNames_loop(p:Pg)(h:Hd p)(a:List Tm)(ha:a.length≤3000):∀(d j:Nat),a.length-j=d→
    Tq (d+1) (fun k q=>spec_l3Names.L0 (cl k) k p a q (j:Int)) (· =((bo (∀t∈a.drop j,NmOk p t),()),())):=by
  have hb:=h.b;intro d
  induction d with
  | zero=>
    intro j hd;refine Tq.succ ?_;show Tq _ (fun k q=>spec_l3Names.step0 (cl k) k ..) _
    unfold spec_l3Names.step0
    repeat'((first|refine .t ?_|refine .u ?_|refine .some lg0 ?_|refine .some lg ?_|refine .some lgI ?_|(refine .bif (fun zz=>?_) (fun zz=>?_)<;>try simp(disch:=omega)only[zs,w64,zt]at zz))<;>try dsimp only)
    rw[bo_t (all_end (by omega))];exact Tq.ret rfl
  | succ d ih=>
    intro j hd;have hj:j<a.length:=by omega
    refine Tq.succ ?_;show Tq _ (fun k q=>spec_l3Names.step0 (cl k) k ..) _
    unfold spec_l3Names.step0;rw[bo_congr (all_drop hj)]
    repeat'((first|refine .ba (size_ans p h.w) ?_|refine .ba (l3Vars_ans p h) ?_|refine .t ?_|refine .u ?_|refine .some lg0 ?_|refine .some lg ?_|refine .some lgI ?_|(refine .bif (fun zz=>?_) (fun zz=>?_)<;>try simp(disch:=omega)only[zs,w64,zt]at zz))<;>try dsimp only)
    all_goals first
      |(refine Tq.ret ?_;rw[bo_f];rintro⟨⟨h1,h2,h3⟩,h4⟩;first|exact absurd (h1 ‹_›) (by omega)|exact absurd (h2 ‹_›) (by omega)|exact absurd (h3 ‹_›) (by omega))
      | (simp(disch:=omega)only[w64]
         rw[bo_congr (and_iff_right ⟨by omega,by omega,by omega⟩)];exact ih (j+1) (by omega))
theorem sNames_ans(p:Pg)(h:Hd p)(a:List Tm)(ha:a.length≤1048576):Ans n_spec_l3Names s_spec_l3Names (p,a,()) ((bo (Names p a),()),()):=by
  refine Gv.ans (Gv.of (fun k=>spec_l3Names.F_eq (cl k) k p a) ?_);unfold spec_l3Names.F spec_l3Names.Fm
  repeat'((first|refine .ba (sExpOk_ans a ha) ?_|refine .t ?_|refine .u ?_|refine .some lg0 ?_|refine .some lg ?_|refine .some lgI ?_|(refine .bif (fun zz=>?_) (fun zz=>?_)<;>try simp(disch:=omega)only[zs,w64,zt]at zz))<;>try dsimp only)
  . exact Tq.ret (by rw[bo_f (P:=Names p a) (fun h=>absurd h.1 (by assumption))])
  . have hx:ExpOk a:=by assumption
    unfold Names;rw[bo_congr (and_iff_right hx)];exact Tq.diag (sNames_loop p h a hx.1 _ 0 rfl)
/-! ### What may stand-/
def Stand(p:Pg)(e:List Tm):Prop:=e.length≤40∧Names p e∧∀t∈e,t.1≠17
theorem Stand.pos {p:Pg}{e:List Tm}(h:Stand p e):0<e.length:=by
  rcases e with _|⟨a,l⟩
  . exact absurd (show(0:Int)=1 from h.2.1.1.2) (by omega)
  . exact Nat.succ_pos _
theorem iStand_loop(a:List Tm)(ha:a.length≤3000):∀(d j:Nat),a.length-j=d→
    Tq (d+1) (fun k q=>impl_mayStand.L0 (cl k) k a q (j:Int)) (· =((bo (∀t∈a.drop j,t.1≠17),()),())):=by
  intro d
  induction d with
  | zero=>
    intro j hd;refine Tq.succ ?_;show Tq _ (fun k q=>impl_mayStand.step0 (cl k) k ..) _
    unfold impl_mayStand.step0
    repeat'((first|refine .t ?_|refine .u ?_|refine .some lg0 ?_|refine .some lg ?_|refine .some lgI ?_|(refine .bif (fun zz=>?_) (fun zz=>?_)<;>try simp(disch:=omega)only[zs,w64,zt]at zz))<;>try dsimp only)
    rw[bo_t (all_end (P:=fun t:Tm=>t.1≠17) (by omega))];exact Tq.ret rfl
  | succ d ih=>
    intro j hd;have hj:j<a.length:=by omega
    refine Tq.succ ?_;show Tq _ (fun k q=>impl_mayStand.step0 (cl k) k ..) _
    unfold impl_mayStand.step0;rw[bo_congr (all_drop (P:=fun t:Tm=>t.1≠17) hj)]
    repeat'((first|refine .t ?_|refine .u ?_|refine .some lg0 ?_|refine .some lg ?_|refine .some lgI ?_|(refine .bif (fun zz=>?_) (fun zz=>?_)<;>try simp(disch:=omega)only[zs,w64,zt]at zz))<;>try dsimp only)
    . refine Tq.ret ?_;rw[bo_f];exact fun h=>absurd ‹_› h.1
    . simp(disch:=omega)only[w64];rw[bo_congr (and_iff_right (by assumption))];exact ih (j+1) (by omega)
theorem iStand_ans(p:Pg)(h:Hd p)(a:List Tm)(ha:a.length≤1048576):Ans n_impl_mayStand s_impl_mayStand (p,a,()) ((bo (Stand p a),()),()):=by
  refine Gv.ans (Gv.of (fun k=>impl_mayStand.F_eq (cl k) k p a) ?_);unfold impl_mayStand.F impl_mayStand.Fm
  repeat'((first|refine .ba (iNames_ans p h a ha) ?_|refine .t ?_|refine .u ?_|refine .some lg0 ?_|refine .some lg ?_|refine .some lgI ?_|(refine .bif (fun zz=>?_) (fun zz=>?_)<;>try simp(disch:=omega)only[zs,w64,zt]at zz))<;>try dsimp only)
  . refine Tq.ret ?_;rw[bo_f (P:=Stand p a)];exact fun h=>absurd h.1 (by omega)
  . refine Tq.ret ?_;rw[bo_f (P:=Stand p a)];exact fun h=>absurd h.2.1 (by assumption)
  . unfold Stand;rw[bo_congr (and_iff_right (by omega)),bo_congr (and_iff_right (by assumption))];exact Tq.diag (iStand_loop a (by omega) _ 0 rfl)
theorem sStand_loop(p:Pg)(h:Hd p)(a:List Tm)(ha:a.length≤1048576):∀(d j:Nat),a.length-j=d→
    Tq (d+1) (fun k q=>spec_l3Exp.L0 (cl k) k p a q (j:Int)) (· =((bo ((∀t∈a.drop j,t.1≠17)∧a.length≤40∧Names p a),()),())):=by
  intro d
  induction d with
  | zero=>
    intro j hd;refine Tq.succ ?_;show Tq _ (fun k q=>spec_l3Exp.step0 (cl k) k ..) _
    unfold spec_l3Exp.step0;rw[bo_congr (and_iff_right (all_end (P:=fun t:Tm=>t.1≠17) (by omega)))]
    repeat'((first|refine .ba (sNames_ans p h a ha) ?_|refine .t ?_|refine .u ?_|refine .some lg0 ?_|refine .some lg ?_|refine .some lgI ?_|(refine .bif (fun zz=>?_) (fun zz=>?_)<;>try simp(disch:=omega)only[zs,w64,zt]at zz))<;>try dsimp only)
    . rw[bo_congr (and_iff_right (by omega))];exact Tq.ret rfl
    . refine Tq.ret ?_;rw[bo_f (P:=a.length≤40∧_)];exact fun h=>absurd h.1 (by omega)
  | succ d ih=>
    intro j hd;have hj:j<a.length:=by omega
    refine Tq.succ ?_;show Tq _ (fun k q=>spec_l3Exp.step0 (cl k) k ..) _
    unfold spec_l3Exp.step0;rw[bo_congr (and_congr_left' (all_drop (P:=fun t:Tm=>t.1≠17) hj))]
    repeat'((first|refine .t ?_|refine .u ?_|refine .some lg0 ?_|refine .some lg ?_|refine .some lgI ?_|(refine .bif (fun zz=>?_) (fun zz=>?_)<;>try simp(disch:=omega)only[zs,w64,zt]at zz))<;>try dsimp only)
    . refine Tq.ret ?_;rw[bo_f];exact fun h=>absurd ‹_› h.1.1
    . simp(disch:=omega)only[w64];rw[bo_congr (and_congr_left' (and_iff_right (by assumption)))];exact ih (j+1) (by omega)
theorem sStand_ans(p:Pg)(h:Hd p)(a:List Tm)(ha:a.length≤1048576):Ans n_spec_l3Exp s_spec_l3Exp (p,a,()) ((bo (Stand p a),()),()):=by
  refine Gv.ans (Gv.of (fun k=>spec_l3Exp.F_eq (cl k) k p a) ?_);unfold spec_l3Exp.F spec_l3Exp.Fm;rw[bo_congr (P:=Stand p a) (Q:=(∀t∈a,t.1≠17)∧a.length≤40∧Names p a) ⟨fun h=>⟨h.2.2,h.1,h.2.1⟩,fun h=>⟨h.2.1,h.2.2,h.1⟩⟩];exact Tq.diag (sStand_loop p h a ha _ 0 rfl)
/-! ### Statements-/
def Has(p:Pg)(e:List Tm)(should:Prop):Prop:=(should→Stand p e)∧(¬should→e.length=0)
def NOk(p:Pg)(o n:Int):Prop:=
  (o=0→Ins p≤n∧n≤Vrs p-1)∧(o=1→0≤n∧n≤(p.2.2.2.2.1.length:Int)-1)∧(o=5→0≤n∧n≤4)∧(o=7∨o=9→0≤n∧n≤9)∧(o=2∨o=3∨o=4∨o=6∨o=8→n=0)
def StOk(p:Pg)(s:Sm):Prop:=(0≤s.1∧s.1≤9)∧NOk p s.1 s.2.1∧Has p s.2.2.1 (s.1=1)∧Has p s.2.2.2.1 (s.1=0∨s.1=1∨s.1=2∨s.1=6)
theorem holds_t(p:Pg)(h:Hd p)(a:List Tm)(ha:a.length≤1048576):Ans n_impl_holdsPlace s_impl_holdsPlace (p,a,true,()) ((bo (Stand p a),()),()):=by
  refine Gv.ans (Gv.of (fun k=>impl_holdsPlace.F_eq (cl k) k p a true) ?_);unfold impl_holdsPlace.F impl_holdsPlace.Fm
  repeat'((first|refine .ba (iStand_ans p h a ha) ?_|refine .t ?_|refine .u ?_|refine .some lg0 ?_|refine .some lg ?_|refine .some lgI ?_|(refine .bif (fun zz=>?_) (fun zz=>?_)<;>try simp(disch:=omega)only[zs,w64,zt]at zz))<;>try dsimp only)
  exact Tq.ret rfl
theorem holds_f(p:Pg)(h:Hd p)(a:List Tm)(ha:a.length≤1048576):Ans n_impl_holdsPlace s_impl_holdsPlace (p,a,false,()) ((bo (a.length=0),()),()):=by
  refine Gv.ans (Gv.of (fun k=>impl_holdsPlace.F_eq (cl k) k p a false) ?_);unfold impl_holdsPlace.F impl_holdsPlace.Fm
  repeat'((first|refine .ba (iStand_ans p h a ha) ?_|refine .t ?_|refine .u ?_|refine .some lg0 ?_|refine .some lg ?_|refine .some lgI ?_|(refine .bif (fun zz=>?_) (fun zz=>?_)<;>try simp(disch:=omega)only[zs,w64,zt]at zz))<;>try dsimp only)
  exact Tq.ret (by rw[bo_beq (Q:=a.length=0) (by omega)])
theorem iStmt_ans(p:Pg)(h:Hd p)(s:Sm)(h1:s.2.2.1.length≤1048576)(h2:s.2.2.2.1.length≤1048576):Ans n_impl_stmtRight s_impl_stmtRight (p,s,()) ((bo (StOk p s),()),()):=by
  have hb:=h.b;have hv:Vrs p=(p.2.1.length:Int)+(p.2.2.1.length:Int)+p.2.2.2.1:=rfl;have hi:Ins p=(p.2.1.length:Int)+(p.2.2.1.length:Int):=rfl;refine Gv.ans (Gv.of (fun k=>impl_stmtRight.F_eq (cl k) k p s) ?_);unfold impl_stmtRight.F impl_stmtRight.Fm
  repeat'((first|refine .ba (ins_ans p h) ?_|refine .ba (vars_ans p h) ?_|refine .ba (holds_t p h _ h1) ?_|refine .ba (holds_t p h _ h2) ?_|refine .ba (holds_f p h _ h1) ?_|refine .ba (holds_f p h _ h2) ?_|refine .t ?_|refine .u ?_|refine .some lg0 ?_|refine .some lg ?_|refine .some lgI ?_|(refine .bif (fun zz=>?_) (fun zz=>?_)<;>try simp(disch:=omega)only[zs,w64,zt]at zz))<;>try dsimp only)
  all_goals refine Tq.ret ?_
  all_goals first
    |(rw[bo_f];rintro⟨h3,⟨h4,h5,h6,h7,h8⟩,⟨h9,h10⟩,h11⟩;omega)
    |(rw[bo_f];rintro⟨h3,h4,⟨h9,h10⟩,h11⟩;exact absurd (h9 (by omega)) (by assumption))
    | (rw[bo_congr];constructor
       . intro h3;exact⟨by omega,⟨by omega,by omega,by omega,by omega,by omega⟩,⟨fun _=>by first|assumption|omega,fun _=>by omega⟩,⟨fun _=>by first|assumption|omega,fun _=>by omega⟩⟩
       . rintro⟨h3,h4,⟨h5,h6⟩,h7,h8⟩
         first|exact h7 (by omega)|exact h8 (by omega))
theorem sStmt_ans(p:Pg)(h:Hd p)(s:Sm)(h1:s.2.2.1.length≤1048576)(h2:s.2.2.2.1.length≤1048576):Ans n_spec_l3Stmt s_spec_l3Stmt (p,s,()) ((bo (StOk p s),()),()):=by
  have hb:=h.b;have hv:Vrs p=(p.2.1.length:Int)+(p.2.2.1.length:Int)+p.2.2.2.1:=rfl;have hi:Ins p=(p.2.1.length:Int)+(p.2.2.1.length:Int):=rfl;refine Gv.ans (Gv.of (fun k=>spec_l3Stmt.F_eq (cl k) k p s) ?_);unfold spec_l3Stmt.F spec_l3Stmt.Fm;rcases(by omega:s.1=0∨s.1=1∨s.1=2∨s.1=3∨s.1=4∨s.1=5∨s.1=6∨s.1=7∨s.1=8∨s.1=9∨¬(0≤s.1∧s.1≤9))with e|e|e|e|e|e|e|e|e|e|e
  all_goals(try simp only[e,Int.reduceBEq,cond_true,cond_false,Bool.not_true,Bool.not_false])
  all_goals repeat'((first|refine .ba (l1In_ans _ _ _) ?_|refine .ba (sStand_ans p h _ h1) ?_|refine .ba (sStand_ans p h _ h2) ?_|refine .t ?_|refine .u ?_|refine .some lg0 ?_|refine .some lg ?_|refine .some lgI ?_|(refine .bif (fun zz=>?_) (fun zz=>?_)<;>try simp(disch:=omega)only[zs,w64,zt]at zz))<;>try dsimp only)
  all_goals refine Tq.ret ?_
  all_goals(try simp(disch:=omega)only[w64])
  all_goals first
    |(rw[bo_f];rintro⟨h3,⟨h4,h5,h6,h7,h8⟩,⟨h9,h10⟩,h11⟩;omega)
    |(rw[bo_f];rintro⟨h3,h4,⟨h9,h10⟩,h11,h12⟩;exact absurd (h9 (by omega)) (by assumption))
    |(rw[bo_f];rintro⟨h3,h4,⟨h9,h10⟩,h11,h12⟩;exact absurd (h11 (by omega)) (by assumption))
    |(rw[bo_f];rintro⟨h3,h4,⟨h9,h10⟩,h11,h12⟩;have:=(h9 (by omega)).pos;omega)
    |(rw[bo_f];rintro⟨h3,h4,⟨h9,h10⟩,h11,h12⟩;have:=(h11 (by omega)).pos;omega)
    | (rw[bo_dec (Q:=StOk p s)];constructor
       . intro h3;exact⟨by omega,⟨by omega,by omega,by omega,by omega,by omega⟩,⟨fun _=>by first|assumption|omega,fun _=>by omega⟩,⟨fun _=>by first|assumption|omega,fun _=>by omega⟩⟩
       . rintro⟨h3,⟨h4,h5,h6,h7,h8⟩,h9⟩;omega)
    | (rw[bo_beq (Q:=StOk p s)];constructor
       . intro h3;exact⟨by omega,⟨by omega,by omega,by omega,by omega,by omega⟩,⟨fun _=>by first|assumption|omega,fun _=>by omega⟩,⟨fun _=>by first|assumption|omega,fun _=>by omega⟩⟩
       . rintro⟨h3,⟨h4,h5,h6,h7,h8⟩,h9⟩;omega)
    | (rw[bo_congr];constructor
       . intro h3;exact⟨by omega,⟨by omega,by omega,by omega,by omega,by omega⟩,⟨fun _=>by first|assumption|omega,fun _=>by omega⟩,⟨fun _=>by first|assumption|omega,fun _=>by omega⟩⟩
       . rintro⟨h3,⟨h4,h5,h6,h7,h8⟩,h9⟩;omega)
end Go.Proofs.YtjgfofcgmcnblaaGreat.Pf
