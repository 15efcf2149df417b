/- The law FnExactRangeDia answers yes: for all arguments, no condition. -/
import Derived.Test.YtjgfofcgmcnblaaGreatRows
import Derived.Test.YtjgfofcgmcnblaaGreatPfM3
import Derived.JoinedOf
import Derived.KernelRfl
import Derived.WalkKit
import Derived.ProofKit
import Derived.OpenShut
import Derived.ChangeOld
import Derived.Below
import Derived.Carry
import Derived.SizedLaws
set_option linter.all false
set_option maxHeartbeats 2000000
namespace Go.Proofs.YtjgfofcgmcnblaaGreat
open Go
theorem words_blank(r:List Char):wordsSigns (Char.ofNat 32::r)=[]::wordsSigns r:=rfl
theorem words_other(c:Char)(r:List Char)(h:c≠Char.ofNat 32)(w:List Char)(ws:List (List Char))(e:wordsSigns r=w::ws):wordsSigns (c::r)=(c::w)::ws:=by
  rw[wordsSigns,e];exact h
theorem words_cons:∀(a r:List Char),(a.all fun c=>c !=Char.ofNat 32)=true→wordsSigns (a++Char.ofNat 32::r)=a::wordsSigns r
  |[],r,_=>words_blank r
  | c::a,r,h=>by
    simp only[List.all_cons,Bool.and_eq_true,bne_iff_ne,ne_eq]at h;exact words_other c _ h.1 a _ (words_cons a r h.2)
def sg(l:List Nat):List Char:=l.map Char.ofNat
def h0:List Char:=sg [104,97,114,110,101,115,115]
def h1:List Char:=sg [56,102,100,57,102,54,99,102,48,53,100,97,97,101,48,48,53,98,49,52,102,97,56,102,51,50,99,99,56,49,101,102,101,101,51,55,101,102,50,102,97,53,54,57,51,50,99,100,101,57,57,52,99,50,100,97,55,97,51,99,55,101,52,56]
def h2:List Char:=sg [99,117,116]
def h3:List Char:=sg [97,116,32,108,111,111,112,46,101,120,97,109,112,108,101,47,103,48,48,54,57,55,47,108,97,119,115,46,70,110,86,97,108,117,101,66,105,116,115,32,108,111,111,112,46,101,120,97,109,112,108,101,47,103,48,48,54,57,55,47,108,97,119,115,46,70,110,87,101,105,103,104,32,108,111,111,112,46,101,120,97,109,112,108,101,47,103,48,48,54,57,55,47,108,97,119,115,46,70,110,69,120,97,99,116,77,111,115,116,74,111,105,110,116,32,108,111,111,112,46,101,120,97,109,112,108,101,47,103,48,48,54,57,55,47,108,97,119,115,46,70,110,69,120,97,99,116,77,111,115,116,70,111,114,32,108,111,111,112,46,101,120,97,109,112,108,101,47,103,48,48,54,57,55,47,108,97,119,115,46,70,110,83,104,97,112,101,115,32,108,111,111,112,46,101,120,97,109,112,108,101,47,103,48,48,54,57,55,47,108,97,119,115,46,70,110,77,111,115,116,32,108,111,111,112,46,101,120,97,109,112,108,101,47,103,48,48,54,57,55,47,108,97,119,115,46,70,110,69,120,97,99,116,65,108,108,79,117,116,99,111,109,101,115,32,108,111,111,112,46,101,120,97,109,112,108,101,47,103,48,48,54,57,55,47,108,97,119,115,46,70,110,69,120,97,99,116,79,100,100,115,79,102,32,108,111,111,112,46,101,120,97,109,112,108,101,47,103,48,48,54,57,55,47,108,97,119,115,46,70,110,69,120,97,99,116,87,101,105,103,104,32,108,111,111,112,46,101,120,97,109,112,108,101,47,103,48,48,54,57,55,47,108,97,119,115,46,70,110,69,120,97,99,116,83,104,97,112,101,115,79,102,32,108,111,111,112,46,101,120,97,109,112,108,101,47,103,48,48,54,57,55,47,108,97,119,115,46,70,110,69,120,97,99,116,87,101,105,103,104,83,104,97,112,101,32,108,111,111,112,46,101,120,97,109,112,108,101,47,103,48,48,54,57,55,47,108,97,119,115,46,70,110,69,120,97,99,116,82,97,110,103,101,68,105,97,32,108,111,111,112,46,101,120,97,109,112,108,101,47,103,48,48,54,57,55,47,108,97,119,115,46,70,110,69,120,97,99,116,83,104,97,112,101,68,105,97,32,108,111,111,112,46,101,120,97,109,112,108,101,47,103,48,48,54,57,55,47,108,97,119,115,46,70,110,69,120,97,99,116,67,108,97,115,115,83,105,122,101,115,32,108,111,111,112,46,101,120,97,109,112,108,101,47,103,48,48,54,57,55,47,108,97,119,115,46,70,110,69,120,97,99,116,86,97,108,117,101,68,105,97,32,108,111,111,112,46,101,120,97,109,112,108,101,47,103,48,48,54,57,55,47,108,97,119,115,46,70,110,69,120,97,99,116,79,117,116,99,111,109,101,115,79,102,32,108,111,111,112,46,101,120,97,109,112,108,101,47,103,48,48,54,57,55,47,108,97,119,115,46,70,110,69,120,97,99,116,74,117,100,103,101]
theorem head_is:Tryz.prog.initOrder=String.ofList (h0++Char.ofNat 32::(h1++Char.ofNat 32::(h2++Char.ofNat 32::h3))):=by kernel_rfl
theorem h0b:(h0.all fun c=>c !=Char.ofNat 32)=true:=by kernel_rfl
theorem h1b:(h1.all fun c=>c !=Char.ofNat 32)=true:=by kernel_rfl
theorem h2b:(h2.all fun c=>c !=Char.ofNat 32)=true:=by kernel_rfl
theorem head_words:wordsSigns Tryz.prog.initOrder.toList=h0::h1::h2::wordsSigns h3:=
  ((congrArg (fun s:String=>wordsSigns s.toList) head_is).trans (congrArg wordsSigns String.toList_ofList)).trans
    ((words_cons h0 _ h0b).trans (congrArg (h0:: ·) ((words_cons h1 _ h1b).trans (congrArg (h1:: ·) (words_cons h2 _ h2b)))))
theorem behind_is(r:List (List Char)):behindMainWord (h0::h1::h2::r)=h2::r:=by kernel_rfl
theorem behind:behindMainWord (wordsSigns Tryz.prog.initOrder.toList)=h2::wordsSigns h3:=(congrArg behindMainWord head_words).trans (behind_is _)
def makeOf(P:Program)(l:List (List Char)):Option Make:=
  match l with
  |c::rest=>if c== "gc".toList||c== "spec".toList then some .whole else if c== "cut".toList||(c== "finals".toList&&rest.head?==some "cut".toList)then some .cut else if c== "carried".toList then some .carried else if P.headLifts.isEmpty then none else some (.lifted P.headLifts)
  |[]=>none
theorem makeOf_cut(P:Program)(r:List (List Char)):makeOf P (h2::r)=some .cut:=by kernel_rfl
theorem make_eq(P:Program)(r:List (List Char))(h:behindMainWord (wordsSigns P.initOrder.toList)=h2::r):P.make=some .cut:=by
  have e:P.make=makeOf P (behindMainWord (wordsSigns P.initOrder.toList)):=rfl;rw[e,h];exact makeOf_cut P _
theorem lifts_of(P:Program)(r:List (List Char))(h:behindMainWord (wordsSigns P.initOrder.toList)=h2::r):P.liftsFinal=false:=by
  unfold Program.liftsFinal Program.headLifts;rw[h];kernel_rfl
def enterOf(P:Program)(l:List (List Char)):Bool:=
  match l with
  | c ::rest=>
    ((c== "gc".toList||c== "spec".toList)&&(rest.isEmpty||rest.head?==some "stop".toList))||
    (c== "carried".toList&&rest.take 2==["gc".toList, "cut".toList]&&!P.laysLater&&!P.bearsReflect)||
    ((stripLifts liftWords (c::rest)).2.head?==some "cut".toList&&
      ((stripLifts liftWords (c::rest)).1.contains "finals" ||!P.laysLater)&&((stripLifts liftWords (c::rest)).1.contains "reflectrows" ||!P.bearsReflect)&&
      ((stripLifts liftWords (c::rest)).1.contains "reflectrows" ||!(stripLifts liftWords (c::rest)).1.contains "leanrows")&&
      P.doorFits (stripLifts liftWords (c::rest)).1)
  |[]=>false
theorem enterOf_cut(r:List (List Char)):enterOf Tryz.prog (h2::r)=true:=by kernel_rfl
theorem enter_of(P:Program):P.mayEnter=enterOf P (behindMainWord (wordsSigns P.initOrder.toList)):=rfl
theorem make_is:Tryz.prog.make=some .cut:=make_eq _ _ behind
theorem lifts_is:Tryz.prog.liftsFinal=false:=lifts_of _ _ behind
theorem enter_is:Tryz.prog.mayEnter=true:=(enter_of Tryz.prog).trans ((congrArg (enterOf Tryz.prog) behind).trans (enterOf_cut _))
def restFacts(P:Program)(f:FuncId)(fn:Func)(s:ChangeSpec)(c:OpenClaim):Bool:=
  c.wf (OpenSpec.ofChange s)&&laidOutB P&&mapsRowed P&&
  fn.params.all (P.readableRec ·)&&namedTie P c.named s.vars&&
  (c.stops==[])&&(P.stops==[])&&(c.knobs==[])&&(P.stopKnobs==[])&&
  (c.inPlace==P.inPlace f)&&(c.unfollowed==P.unfollowed f)&&(c.recurses==P.recurses f)&&(c.named==P.varsNamed f)&&
  (c.maps==(fn.params.toList++s.plain.varTypes P).any (P.mapsRec ·))&&(c.ifaces==(fn.params.toList++s.plain.varTypes P).any (P.ifacesRec ·))&&(c.mapsOut==P.mapsAmong fn.resultTypes.toList)&&
  (c.loops==(fn.params.toList++s.plain.varTypes P).any (P.loopsFrom ·))&&(c.wideKeys==(fn.params.toList++s.plain.varTypes P++fn.resultTypes.toList).any (P.wideKeysFrom ·))&&
  s.vars.all (P.varReadable ·)&&fn.resultTypes.all (fun t=>P.readableRec t&&decide (t<P.types.size))&&(c.ifacesOut==fn.resultTypes.toList.any (P.ifacesRec ·))&&(c.loopsOut==fn.resultTypes.toList.any (P.loopsFrom ·))&&(c.plainKeys==P.plainKeys)&&c.shortTexts.isNone&&P.stopsHeard&&true&&(c.lifted==false)&&(some Make.cut==some c.make)&&(c.kinds==(if c.domain.isEmpty then[]else fn.params.toList.map fun t=>match P.underlying t with|some (.int k)=>some k| _=>none))&&(c.pinned==c.pinnedBy)&&
  (c.veiled==(fn.params.toList++s.plain.varTypes P++fn.resultTypes.toList).any (P.veiledRec ·))&&c.veiledFits P fn.params.toList (fn.params.toList++s.plain.varTypes P++fn.resultTypes.toList)
theorem closed_of(P:Program)(f:FuncId)(fn:Func)(s:ChangeSpec)(c:OpenClaim)(k1:P.make=some .cut)(k2:P.liftsFinal=false)(k3:P.mayEnter=true)(h:restFacts P f fn s c=true):joinedFacts P f fn s c=true:=by
  unfold joinedFacts;rw[k1,k2,k3];exact h
theorem facts {f:FuncId}{fn:Func}{s:ChangeSpec}{c:OpenClaim}(h:restFacts Tryz.prog f fn s c=true):joinedFacts Tryz.prog f fn s c=true:=closed_of _ _ _ _ _ make_is lifts_is enter_is h
end Go.Proofs.YtjgfofcgmcnblaaGreat
namespace Go.Proofs.YtjgfofcgmcnblaaGreat.Pf
open Go Go.Pv Go.Proofs
set_option maxRecDepth 100000
theorem fk14:FnE Tryz.prog 14 (Tryz.f14,s_laws_FnExactRangeDia):=⟨Tryz.func14,by kernel_rfl⟩
theorem fk15:FnE Tryz.prog 15 (Tryz.f15,s_laws_FnExactShapeDia):=⟨Tryz.func15,by kernel_rfl⟩
theorem fk17:FnE Tryz.prog 17 (Tryz.f17,s_laws_FnExactValueDia):=⟨Tryz.func17,by kernel_rfl⟩
theorem fk29:FnE Tryz.prog 29 (Tryz.f29,s_impl_ShapeDia):=⟨Tryz.func29,by kernel_rfl⟩
theorem fk30:FnE Tryz.prog 30 (Tryz.f30,s_impl_RangeDia):=⟨Tryz.func30,by kernel_rfl⟩
theorem fk31:FnE Tryz.prog 31 (Tryz.f31,s_impl_ValueDia):=⟨Tryz.func31,by kernel_rfl⟩
theorem fk38:FnE Tryz.prog 38 (Tryz.f38,s_laws_szProg):=⟨Tryz.func38,by kernel_rfl⟩
theorem fk40:FnE Tryz.prog 40 (Tryz.f40,s_laws_toProg):=⟨Tryz.func40,by kernel_rfl⟩
theorem fk42:FnE Tryz.prog 42 (Tryz.f42,s_laws_eqProg):=⟨Tryz.func42,by kernel_rfl⟩
theorem fk55:FnE Tryz.prog 55 (Tryz.f55,s_laws_markProg):=⟨Tryz.func55,by kernel_rfl⟩
theorem fk59:FnE Tryz.prog 59 (Tryz.f59,s_laws_toInt64S):=⟨Tryz.func59,by kernel_rfl⟩
theorem fk61:FnE Tryz.prog 61 (Tryz.f61,s_laws_eqInt64S):=⟨Tryz.func61,by kernel_rfl⟩
theorem fk69:FnE Tryz.prog 69 (Tryz.f69,s_laws_toShape):=⟨Tryz.func69,by kernel_rfl⟩
theorem fk70:FnE Tryz.prog 70 (Tryz.f70,s_spec_RangeDia):=⟨Tryz.func70,by kernel_rfl⟩
theorem fk71:FnE Tryz.prog 71 (Tryz.f71,s_laws_eqDia):=⟨Tryz.func71,by kernel_rfl⟩
theorem fk72:FnE Tryz.prog 72 (Tryz.f72,s_laws_markDia):=⟨Tryz.func72,by kernel_rfl⟩
theorem fk73:FnE Tryz.prog 73 (Tryz.f73,s_laws_heldDia):=⟨Tryz.func73,by kernel_rfl⟩
theorem fk74:FnE Tryz.prog 74 (Tryz.f74,s_spec_ShapeDia):=⟨Tryz.func74,by kernel_rfl⟩
theorem fk76:FnE Tryz.prog 76 (Tryz.f76,s_laws_markInt64S):=⟨Tryz.func76,by kernel_rfl⟩
theorem fk79:FnE Tryz.prog 79 (Tryz.f79,s_spec_ValueDia):=⟨Tryz.func79,by kernel_rfl⟩
theorem fk87:FnE Tryz.prog 87 (Tryz.f87,s_spec_ProgOk):=⟨Tryz.func87,by kernel_rfl⟩
theorem fk91:FnE Tryz.prog 91 (Tryz.f91,s_spec_l7Maxes):=⟨Tryz.func91,by kernel_rfl⟩
theorem fk94:FnE Tryz.prog 94 (Tryz.f94,s_spec_l3Bits):=⟨Tryz.func94,by kernel_rfl⟩
theorem fk97:FnE Tryz.prog 97 (Tryz.f97,s_impl_placeOf):=⟨Tryz.func97,by kernel_rfl⟩
theorem fk98:FnE Tryz.prog 98 (Tryz.f98,s_impl_ProgOk):=⟨Tryz.func98,by kernel_rfl⟩
theorem fk10300099:FnE Tryz.prog 10300099 (Tryz.f99,s_impl_diaWhere__impl_RangeDia_1):=⟨Tryz.func99,by kernel_rfl⟩
theorem fk10100099:FnE Tryz.prog 10100099 (Tryz.f99,s_impl_diaWhere__impl_ShapeDia_1):=⟨Tryz.func99,by kernel_rfl⟩
theorem fk10400099:FnE Tryz.prog 10400099 (Tryz.f99,s_impl_diaWhere__impl_ValueDia_1):=⟨Tryz.func99,by kernel_rfl⟩
theorem fk100:FnE Tryz.prog 100 (Tryz.f100,s_impl_ShapeDia_1):=⟨Tryz.func100,by kernel_rfl⟩
theorem fk101:FnE Tryz.prog 101 (Tryz.f101,s_impl_shapeOf):=⟨Tryz.func101,by kernel_rfl⟩
theorem fk102:FnE Tryz.prog 102 (Tryz.f102,s_impl_RangeDia_1):=⟨Tryz.func102,by kernel_rfl⟩
theorem fk103:FnE Tryz.prog 103 (Tryz.f103,s_impl_ValueDia_1):=⟨Tryz.func103,by kernel_rfl⟩
theorem fk104:FnE Tryz.prog 104 (Tryz.f104,s_impl_truth):=⟨Tryz.func104,by kernel_rfl⟩
theorem fk108:FnE Tryz.prog 108 (Tryz.f108,s_spec_l15Shape):=⟨Tryz.func108,by kernel_rfl⟩
theorem fk112:FnE Tryz.prog 112 (Tryz.f112,s_laws_szInputS):=⟨Tryz.func112,by kernel_rfl⟩
theorem fk113:FnE Tryz.prog 113 (Tryz.f113,s_laws_szInt64S):=⟨Tryz.func113,by kernel_rfl⟩
theorem fk114:FnE Tryz.prog 114 (Tryz.f114,s_laws_szStmtS):=⟨Tryz.func114,by kernel_rfl⟩
theorem fk116:FnE Tryz.prog 116 (Tryz.f116,s_laws_toInputS):=⟨Tryz.func116,by kernel_rfl⟩
theorem fk117:FnE Tryz.prog 117 (Tryz.f117,s_laws_toStmtS):=⟨Tryz.func117,by kernel_rfl⟩
theorem fk121:FnE Tryz.prog 121 (Tryz.f121,s_laws_eqInputS):=⟨Tryz.func121,by kernel_rfl⟩
theorem fk122:FnE Tryz.prog 122 (Tryz.f122,s_laws_eqStmtS):=⟨Tryz.func122,by kernel_rfl⟩
theorem fk123:FnE Tryz.prog 123 (Tryz.f123,s_spec_l1In):=⟨Tryz.func123,by kernel_rfl⟩
theorem fk126:FnE Tryz.prog 126 (Tryz.f126,s_impl_manyBits):=⟨Tryz.func126,by kernel_rfl⟩
theorem fk136:FnE Tryz.prog 136 (Tryz.f136,s_laws_markInputS):=⟨Tryz.func136,by kernel_rfl⟩
theorem fk137:FnE Tryz.prog 137 (Tryz.f137,s_laws_markStmtS):=⟨Tryz.func137,by kernel_rfl⟩
theorem fk139:FnE Tryz.prog 139 (Tryz.f139,s_spec_l15Make):=⟨Tryz.func139,by kernel_rfl⟩
theorem fk140:FnE Tryz.prog 140 (Tryz.f140,s_laws_eqKnotS):=⟨Tryz.func140,by kernel_rfl⟩
theorem fk141:FnE Tryz.prog 141 (Tryz.f141,s_laws_markKnotS):=⟨Tryz.func141,by kernel_rfl⟩
theorem fk142:FnE Tryz.prog 142 (Tryz.f142,s_laws_heldKnotS):=⟨Tryz.func142,by kernel_rfl⟩
theorem fk144:FnE Tryz.prog 144 (Tryz.f144,s_spec_l3AllBits):=⟨Tryz.func144,by kernel_rfl⟩
theorem fk145:FnE Tryz.prog 145 (Tryz.f145,s_spec_CodeOf):=⟨Tryz.func145,by kernel_rfl⟩
theorem fk147:FnE Tryz.prog 147 (Tryz.f147,s_impl_CodeOf):=⟨Tryz.func147,by kernel_rfl⟩
theorem fk155:FnE Tryz.prog 155 (Tryz.f155,s_spec_l6Run):=⟨Tryz.func155,by kernel_rfl⟩
theorem fk157:FnE Tryz.prog 157 (Tryz.f157,s_impl_diaOf):=⟨Tryz.func157,by kernel_rfl⟩
theorem fk160:FnE Tryz.prog 160 (Tryz.f160,s_impl_manyInputs):=⟨Tryz.func160,by kernel_rfl⟩
theorem fk161:FnE Tryz.prog 161 (Tryz.f161,s_impl_inputOf):=⟨Tryz.func161,by kernel_rfl⟩
theorem fk162:FnE Tryz.prog 162 (Tryz.f162,s_impl_ran):=⟨Tryz.func162,by kernel_rfl⟩
theorem fk163:FnE Tryz.prog 163 (Tryz.f163,s_impl_bitsAt):=⟨Tryz.func163,by kernel_rfl⟩
theorem fk167:FnE Tryz.prog 167 (Tryz.f167,s_spec_l6Of):=⟨Tryz.func167,by kernel_rfl⟩
theorem fk171:FnE Tryz.prog 171 (Tryz.f171,s_laws_szStmt):=⟨Tryz.func171,by kernel_rfl⟩
theorem fk172:FnE Tryz.prog 172 (Tryz.f172,s_spec_l1Max):=⟨Tryz.func172,by kernel_rfl⟩
theorem fk173:FnE Tryz.prog 173 (Tryz.f173,s_laws_toInput):=⟨Tryz.func173,by kernel_rfl⟩
theorem fk174:FnE Tryz.prog 174 (Tryz.f174,s_laws_toStmt):=⟨Tryz.func174,by kernel_rfl⟩
theorem fk176:FnE Tryz.prog 176 (Tryz.f176,s_laws_eqInput):=⟨Tryz.func176,by kernel_rfl⟩
theorem fk177:FnE Tryz.prog 177 (Tryz.f177,s_laws_eqStmt):=⟨Tryz.func177,by kernel_rfl⟩
theorem fk178:FnE Tryz.prog 178 (Tryz.f178,s_impl_allInputs):=⟨Tryz.func178,by kernel_rfl⟩
theorem fk179:FnE Tryz.prog 179 (Tryz.f179,s_impl_bitsOf):=⟨Tryz.func179,by kernel_rfl⟩
theorem fk182:FnE Tryz.prog 182 (Tryz.f182,s_laws_markTermS):=⟨Tryz.func182,by kernel_rfl⟩
theorem fk183:FnE Tryz.prog 183 (Tryz.f183,s_spec_l13Size):=⟨Tryz.func183,by kernel_rfl⟩
theorem fk184:FnE Tryz.prog 184 (Tryz.f184,s_spec_l15Inputs):=⟨Tryz.func184,by kernel_rfl⟩
theorem fk185:FnE Tryz.prog 185 (Tryz.f185,s_spec_l13Bits):=⟨Tryz.func185,by kernel_rfl⟩
theorem fk186:FnE Tryz.prog 186 (Tryz.f186,s_spec_l13Make):=⟨Tryz.func186,by kernel_rfl⟩
theorem fk187:FnE Tryz.prog 187 (Tryz.f187,s_laws_eqKnot):=⟨Tryz.func187,by kernel_rfl⟩
theorem fk188:FnE Tryz.prog 188 (Tryz.f188,s_spec_l3Inputs):=⟨Tryz.func188,by kernel_rfl⟩
theorem fk189:FnE Tryz.prog 189 (Tryz.f189,s_spec_l3Room):=⟨Tryz.func189,by kernel_rfl⟩
theorem fk190:FnE Tryz.prog 190 (Tryz.f190,s_spec_l3Stmts):=⟨Tryz.func190,by kernel_rfl⟩
theorem fk191:FnE Tryz.prog 191 (Tryz.f191,s_spec_l3Block):=⟨Tryz.func191,by kernel_rfl⟩
theorem fk192:FnE Tryz.prog 192 (Tryz.f192,s_spec_l3Steps):=⟨Tryz.func192,by kernel_rfl⟩
theorem fk195:FnE Tryz.prog 195 (Tryz.f195,s_impl_inputRight):=⟨Tryz.func195,by kernel_rfl⟩
theorem fk196:FnE Tryz.prog 196 (Tryz.f196,s_impl_roomRight):=⟨Tryz.func196,by kernel_rfl⟩
theorem fk197:FnE Tryz.prog 197 (Tryz.f197,s_impl_stmtRight):=⟨Tryz.func197,by kernel_rfl⟩
theorem fk198:FnE Tryz.prog 198 (Tryz.f198,s_impl_nodesOf):=⟨Tryz.func198,by kernel_rfl⟩
theorem fk199:FnE Tryz.prog 199 (Tryz.f199,s_impl_stepsIn):=⟨Tryz.func199,by kernel_rfl⟩
theorem fk204:FnE Tryz.prog 204 (Tryz.f204,s_spec_l3End):=⟨Tryz.func204,by kernel_rfl⟩
theorem fk205:FnE Tryz.prog 205 (Tryz.f205,s_spec_l5Value):=⟨Tryz.func205,by kernel_rfl⟩
theorem fk206:FnE Tryz.prog 206 (Tryz.f206,s_spec_l6Trap):=⟨Tryz.func206,by kernel_rfl⟩
theorem fk207:FnE Tryz.prog 207 (Tryz.f207,s_spec_l6Stmt):=⟨Tryz.func207,by kernel_rfl⟩
theorem fk208:FnE Tryz.prog 208 (Tryz.f208,s_impl_smith_forge):=⟨Tryz.func208,by kernel_rfl⟩
theorem fk209:FnE Tryz.prog 209 (Tryz.f209,s_impl_startAt):=⟨Tryz.func209,by kernel_rfl⟩
theorem fk210:FnE Tryz.prog 210 (Tryz.f210,s_impl_machine_do):=⟨Tryz.func210,by kernel_rfl⟩
theorem fk212:FnE Tryz.prog 212 (Tryz.f212,s_laws_szTermS):=⟨Tryz.func212,by kernel_rfl⟩
theorem fk213:FnE Tryz.prog 213 (Tryz.f213,s_laws_toTermS):=⟨Tryz.func213,by kernel_rfl⟩
theorem fk215:FnE Tryz.prog 215 (Tryz.f215,s_laws_eqTermS):=⟨Tryz.func215,by kernel_rfl⟩
theorem fk217:FnE Tryz.prog 217 (Tryz.f217,s_spec_l5Bit):=⟨Tryz.func217,by kernel_rfl⟩
theorem fk218:FnE Tryz.prog 218 (Tryz.f218,s_spec_l13Put):=⟨Tryz.func218,by kernel_rfl⟩
theorem fk219:FnE Tryz.prog 219 (Tryz.f219,s_spec_l3Size):=⟨Tryz.func219,by kernel_rfl⟩
theorem fk220:FnE Tryz.prog 220 (Tryz.f220,s_spec_l3Stmt):=⟨Tryz.func220,by kernel_rfl⟩
theorem fk224:FnE Tryz.prog 224 (Tryz.f224,s_impl_greatest):=⟨Tryz.func224,by kernel_rfl⟩
theorem fk225:FnE Tryz.prog 225 (Tryz.f225,s_impl_inputsOf):=⟨Tryz.func225,by kernel_rfl⟩
theorem fk226:FnE Tryz.prog 226 (Tryz.f226,s_impl_varsOf):=⟨Tryz.func226,by kernel_rfl⟩
theorem fk227:FnE Tryz.prog 227 (Tryz.f227,s_impl_holdsPlace):=⟨Tryz.func227,by kernel_rfl⟩
theorem fk228:FnE Tryz.prog 228 (Tryz.f228,s_impl_nester_many):=⟨Tryz.func228,by kernel_rfl⟩
theorem fk232:FnE Tryz.prog 232 (Tryz.f232,s_spec_l3Is):=⟨Tryz.func232,by kernel_rfl⟩
theorem fk233:FnE Tryz.prog 233 (Tryz.f233,s_spec_TakesOf):=⟨Tryz.func233,by kernel_rfl⟩
theorem fk234:FnE Tryz.prog 234 (Tryz.f234,s_spec_l5Op):=⟨Tryz.func234,by kernel_rfl⟩
theorem fk235:FnE Tryz.prog 235 (Tryz.f235,s_impl_machine_step):=⟨Tryz.func235,by kernel_rfl⟩
theorem fk236:FnE Tryz.prog 236 (Tryz.f236,s_laws_toTerm):=⟨Tryz.func236,by kernel_rfl⟩
theorem fk237:FnE Tryz.prog 237 (Tryz.f237,s_laws_eqTerm):=⟨Tryz.func237,by kernel_rfl⟩
theorem fk238:FnE Tryz.prog 238 (Tryz.f238,s_spec_l3Exp):=⟨Tryz.func238,by kernel_rfl⟩
theorem fk240:FnE Tryz.prog 240 (Tryz.f240,s_impl_mayStand):=⟨Tryz.func240,by kernel_rfl⟩
theorem fk241:FnE Tryz.prog 241 (Tryz.f241,s_impl_nester_is):=⟨Tryz.func241,by kernel_rfl⟩
theorem fk242:FnE Tryz.prog 242 (Tryz.f242,s_impl_nester_one):=⟨Tryz.func242,by kernel_rfl⟩
theorem fk244:FnE Tryz.prog 244 (Tryz.f244,s_spec_l5Bits):=⟨Tryz.func244,by kernel_rfl⟩
theorem fk245:FnE Tryz.prog 245 (Tryz.f245,s_spec_l5Shift):=⟨Tryz.func245,by kernel_rfl⟩
theorem fk246:FnE Tryz.prog 246 (Tryz.f246,s_impl_machine_put):=⟨Tryz.func246,by kernel_rfl⟩
theorem fk247:FnE Tryz.prog 247 (Tryz.f247,s_impl_catchOf):=⟨Tryz.func247,by kernel_rfl⟩
theorem fk248:FnE Tryz.prog 248 (Tryz.f248,s_impl_machine_value):=⟨Tryz.func248,by kernel_rfl⟩
theorem fk249:FnE Tryz.prog 249 (Tryz.f249,s_spec_l3Names):=⟨Tryz.func249,by kernel_rfl⟩
theorem fk252:FnE Tryz.prog 252 (Tryz.f252,s_impl_reckonable):=⟨Tryz.func252,by kernel_rfl⟩
theorem fk253:FnE Tryz.prog 253 (Tryz.f253,s_impl_EndOf):=⟨Tryz.func253,by kernel_rfl⟩
theorem fk254:FnE Tryz.prog 254 (Tryz.f254,s_impl_reckon):=⟨Tryz.func254,by kernel_rfl⟩
theorem fk255:FnE Tryz.prog 255 (Tryz.f255,s_spec_ExpOk):=⟨Tryz.func255,by kernel_rfl⟩
theorem fk256:FnE Tryz.prog 256 (Tryz.f256,s_spec_l3Vars):=⟨Tryz.func256,by kernel_rfl⟩
theorem fk257:FnE Tryz.prog 257 (Tryz.f257,s_impl_ExpOk):=⟨Tryz.func257,by kernel_rfl⟩
theorem fk258:FnE Tryz.prog 258 (Tryz.f258,s_impl_TakesOf):=⟨Tryz.func258,by kernel_rfl⟩
theorem fk259:FnE Tryz.prog 259 (Tryz.f259,s_impl_turn):=⟨Tryz.func259,by kernel_rfl⟩
theorem fk260:FnE Tryz.prog 260 (Tryz.f260,s_impl_join):=⟨Tryz.func260,by kernel_rfl⟩
theorem T {i:TI}{n:Nat}(h1:(Tryz.prog.info? n).map (fun inf=>(inf.size,inf.bytes,inf.zero))=some (i.size,i.bytes,some (zOf i)):=by kernel_rfl)(h2:tiB Tryz.prog n i=true:=by kernel_rfl):TIok Tryz.prog i n:=tiOk h1 h2
theorem hE:EnvOk E:=envOk [(14,Tryz.f14,s_laws_FnExactRangeDia),(15,Tryz.f15,s_laws_FnExactShapeDia),(17,Tryz.f17,s_laws_FnExactValueDia),(29,Tryz.f29,s_impl_ShapeDia),(30,Tryz.f30,s_impl_RangeDia),(31,Tryz.f31,s_impl_ValueDia),(38,Tryz.f38,s_laws_szProg),(40,Tryz.f40,s_laws_toProg),(42,Tryz.f42,s_laws_eqProg),(55,Tryz.f55,s_laws_markProg),(59,Tryz.f59,s_laws_toInt64S),(61,Tryz.f61,s_laws_eqInt64S),(69,Tryz.f69,s_laws_toShape),(70,Tryz.f70,s_spec_RangeDia),(71,Tryz.f71,s_laws_eqDia),(72,Tryz.f72,s_laws_markDia),(73,Tryz.f73,s_laws_heldDia),(74,Tryz.f74,s_spec_ShapeDia),(76,Tryz.f76,s_laws_markInt64S),(79,Tryz.f79,s_spec_ValueDia),(87,Tryz.f87,s_spec_ProgOk),(91,Tryz.f91,s_spec_l7Maxes),(94,Tryz.f94,s_spec_l3Bits),(97,Tryz.f97,s_impl_placeOf),(98,Tryz.f98,s_impl_ProgOk),(10300099,Tryz.f99,s_impl_diaWhere__impl_RangeDia_1),(10100099,Tryz.f99,s_impl_diaWhere__impl_ShapeDia_1),(10400099,Tryz.f99,s_impl_diaWhere__impl_ValueDia_1),(100,Tryz.f100,s_impl_ShapeDia_1),(101,Tryz.f101,s_impl_shapeOf),(102,Tryz.f102,s_impl_RangeDia_1),(103,Tryz.f103,s_impl_ValueDia_1),(104,Tryz.f104,s_impl_truth),(108,Tryz.f108,s_spec_l15Shape),(112,Tryz.f112,s_laws_szInputS),(113,Tryz.f113,s_laws_szInt64S),(114,Tryz.f114,s_laws_szStmtS),(116,Tryz.f116,s_laws_toInputS),(117,Tryz.f117,s_laws_toStmtS),(121,Tryz.f121,s_laws_eqInputS),(122,Tryz.f122,s_laws_eqStmtS),(123,Tryz.f123,s_spec_l1In),(126,Tryz.f126,s_impl_manyBits),(136,Tryz.f136,s_laws_markInputS),(137,Tryz.f137,s_laws_markStmtS),(139,Tryz.f139,s_spec_l15Make),(140,Tryz.f140,s_laws_eqKnotS),(141,Tryz.f141,s_laws_markKnotS),(142,Tryz.f142,s_laws_heldKnotS),(144,Tryz.f144,s_spec_l3AllBits),(145,Tryz.f145,s_spec_CodeOf),(147,Tryz.f147,s_impl_CodeOf),(155,Tryz.f155,s_spec_l6Run),(157,Tryz.f157,s_impl_diaOf),(160,Tryz.f160,s_impl_manyInputs),(161,Tryz.f161,s_impl_inputOf),(162,Tryz.f162,s_impl_ran),(163,Tryz.f163,s_impl_bitsAt),(167,Tryz.f167,s_spec_l6Of),(171,Tryz.f171,s_laws_szStmt),(172,Tryz.f172,s_spec_l1Max),(173,Tryz.f173,s_laws_toInput),(174,Tryz.f174,s_laws_toStmt),(176,Tryz.f176,s_laws_eqInput),(177,Tryz.f177,s_laws_eqStmt),(178,Tryz.f178,s_impl_allInputs),(179,Tryz.f179,s_impl_bitsOf),(182,Tryz.f182,s_laws_markTermS),(183,Tryz.f183,s_spec_l13Size),(184,Tryz.f184,s_spec_l15Inputs),(185,Tryz.f185,s_spec_l13Bits),(186,Tryz.f186,s_spec_l13Make),(187,Tryz.f187,s_laws_eqKnot),(188,Tryz.f188,s_spec_l3Inputs),(189,Tryz.f189,s_spec_l3Room),(190,Tryz.f190,s_spec_l3Stmts),(191,Tryz.f191,s_spec_l3Block),(192,Tryz.f192,s_spec_l3Steps),(195,Tryz.f195,s_impl_inputRight),(196,Tryz.f196,s_impl_roomRight),(197,Tryz.f197,s_impl_stmtRight),(198,Tryz.f198,s_impl_nodesOf),(199,Tryz.f199,s_impl_stepsIn),(204,Tryz.f204,s_spec_l3End),(205,Tryz.f205,s_spec_l5Value),(206,Tryz.f206,s_spec_l6Trap),(207,Tryz.f207,s_spec_l6Stmt),(208,Tryz.f208,s_impl_smith_forge),(209,Tryz.f209,s_impl_startAt),(210,Tryz.f210,s_impl_machine_do),(212,Tryz.f212,s_laws_szTermS),(213,Tryz.f213,s_laws_toTermS),(215,Tryz.f215,s_laws_eqTermS),(217,Tryz.f217,s_spec_l5Bit),(218,Tryz.f218,s_spec_l13Put),(219,Tryz.f219,s_spec_l3Size),(220,Tryz.f220,s_spec_l3Stmt),(224,Tryz.f224,s_impl_greatest),(225,Tryz.f225,s_impl_inputsOf),(226,Tryz.f226,s_impl_varsOf),(227,Tryz.f227,s_impl_holdsPlace),(228,Tryz.f228,s_impl_nester_many),(232,Tryz.f232,s_spec_l3Is),(233,Tryz.f233,s_spec_TakesOf),(234,Tryz.f234,s_spec_l5Op),(235,Tryz.f235,s_impl_machine_step),(236,Tryz.f236,s_laws_toTerm),(237,Tryz.f237,s_laws_eqTerm),(238,Tryz.f238,s_spec_l3Exp),(240,Tryz.f240,s_impl_mayStand),(241,Tryz.f241,s_impl_nester_is),(242,Tryz.f242,s_impl_nester_one),(244,Tryz.f244,s_spec_l5Bits),(245,Tryz.f245,s_spec_l5Shift),(246,Tryz.f246,s_impl_machine_put),(247,Tryz.f247,s_impl_catchOf),(248,Tryz.f248,s_impl_machine_value),(249,Tryz.f249,s_spec_l3Names),(252,Tryz.f252,s_impl_reckonable),(253,Tryz.f253,s_impl_EndOf),(254,Tryz.f254,s_impl_reckon),(255,Tryz.f255,s_spec_ExpOk),(256,Tryz.f256,s_spec_l3Vars),(257,Tryz.f257,s_impl_ExpOk),(258,Tryz.f258,s_impl_TakesOf),(259,Tryz.f259,s_impl_turn),(260,Tryz.f260,s_impl_join)]
  (by kernel_rfl) (by kernel_rfl) ⟨fk14,fk15,fk17,fk29,fk30,fk31,fk38,fk40,fk42,fk55,fk59,fk61,fk69,fk70,fk71,fk72,fk73,fk74,fk76,fk79,fk87,fk91,fk94,fk97,fk98,fk10300099,fk10100099,fk10400099,fk100,fk101,fk102,fk103,fk104,fk108,fk112,fk113,fk114,fk116,fk117,fk121,fk122,fk123,fk126,fk136,fk137,fk139,fk140,fk141,fk142,fk144,fk145,fk147,fk155,fk157,fk160,fk161,fk162,fk163,fk167,fk171,fk172,fk173,fk174,fk176,fk177,fk178,fk179,fk182,fk183,fk184,fk185,fk186,fk187,fk188,fk189,fk190,fk191,fk192,fk195,fk196,fk197,fk198,fk199,fk204,fk205,fk206,fk207,fk208,fk209,fk210,fk212,fk213,fk215,fk217,fk218,fk219,fk220,fk224,fk225,fk226,fk227,fk228,fk232,fk233,fk234,fk235,fk236,fk237,fk238,fk240,fk241,fk242,fk244,fk245,fk246,fk247,fk248,fk249,fk252,fk253,fk254,fk255,fk256,fk257,fk258,fk259,fk260,trivial⟩
  ⟨T,T,T,T,T,T,T,T,T,T,T,T,T,T,T,T,T,T,T,T,T,T,T,T,T,T,T,T,T,T,T,T,T,T,T,T,T,T,T,T,T,T,T,T,T,T,T,T,T,T,T,T,T,T,T,T,T,T,T,T,T,T,T,T,T,T,T,T,T,T,T,T,T,T,T,T,T,T,T,T,T,T,T,T,T,T,T,T,T,T,T,T,T,T,T,T,T,T,T,T,trivial⟩ (by kernel_rfl)
end Go.Proofs.YtjgfofcgmcnblaaGreat.Pf
namespace Go.Proofs.YtjgfofcgmcnblaaGreat.Pf
open Go Go.Pv IntKind
abbrev YLExactRangeDia_0:Type:=(Int×((List (Int×(Int×Unit)))×((List (Int×(Int×Unit)))×(Int×((List Int)×((List (Int×(Int×((List (Int×(Int×Unit)))×((List (Int×(Int×Unit)))×Unit)))))×Unit))))))
abbrev YLExactRangeDia_1:Type:=(((Int×List (Int×Int×Unit)×List (Int×Int×Unit)×Int×List Int×List (Int×Int×List (Int×Int×Unit)×List (Int×Int×Unit)×Unit)×Unit)×Unit)×Unit)
abbrev YLExactRangeDia_2:Type:=(((Int×Int×List (Int×Int×Int×Unit)×Unit)×Unit)×Unit)
namespace laws_FnExactRangeDia
abbrev R:=((Bool×Unit)×Unit)
def Fm(call:Cl)(k:Nat)(a0:YLExactRangeDia_0):Option R:=(call 38 s_laws_szProg (a0,1048576,())).bind fun(y0:(Int×Unit)×Unit)=>bif decide (y0.1.1<0)then some ((true,()),())else(call 40 s_laws_toProg (a0,())).bind fun(y1:YLExactRangeDia_1)=>(call 70 s_spec_RangeDia (y1.1.1,())).bind fun(y2:YLExactRangeDia_2)=>(call 40 s_laws_toProg (a0,())).bind fun(y3:YLExactRangeDia_1)=>(call 30 s_impl_RangeDia (y3.1.1,())).bind fun(y4:YLExactRangeDia_2)=>(call 71 s_laws_eqDia (y4.1.1,y2.1.1,())).bind fun(y5:(Bool×Unit)×Unit)=>bif !y5.1.1 then some ((false,()),())else(call 40 s_laws_toProg (a0,())).bind fun(y6:YLExactRangeDia_1)=>(call 42 s_laws_eqProg (y3.1.1,y6.1.1,())).bind fun(y7:(Bool×Unit)×Unit)=>bif !y7.1.1 then some ((false,()),())else(call 55 s_laws_markProg (y3.1.1,1,())).bind fun(y8:((Int×Unit)×(Int×List (Int×Int×Unit)×List (Int×Int×Unit)×Int×List Int×List (Int×Int×List (Int×Int×Unit)×List (Int×Int×Unit)×Unit)×Unit)×Unit))=>bif decide (y8.1.1<0)then some ((false,()),())else(call 71 s_laws_eqDia (y4.1.1,y2.1.1,())).bind fun(y9:(Bool×Unit)×Unit)=>bif !y9.1.1 then some ((false,()),())else(call 72 s_laws_markDia (y4.1.1,1,())).bind fun(y10:((Int×Unit)×(Int×Int×List (Int×Int×Int×Unit)×Unit)×Unit))=>(call 73 s_laws_heldDia ((y4.1.1.1,y4.1.1.2.1,y10.2.1.2.2.1,y4.1.1.2.2.2),1,())).bind fun(y11:(Int×Unit)×Unit)=>bif decide (y11.1.1<0)then some ((false,()),())else bif y11.1.1!=y10.1.1 then some ((false,()),())else(call 40 s_laws_toProg (a0,())).bind fun(y12:YLExactRangeDia_1)=>(call 30 s_impl_RangeDia (y12.1.1,())).bind fun(y13:YLExactRangeDia_2)=>(call 71 s_laws_eqDia (y13.1.1,y2.1.1,())).bind fun(y14:(Bool×Unit)×Unit)=>bif !y14.1.1 then some ((false,()),())else(call 73 s_laws_heldDia ((y4.1.1.1,y4.1.1.2.1,y10.2.1.2.2.1,y4.1.1.2.2.2),1,())).bind fun(y15:(Int×Unit)×Unit)=>bif decide (y15.1.1<0)then some ((false,()),())else bif y15.1.1!=y10.1.1 then some ((false,()),())else some ((true,()),())
def F(call:Cl)(k:Nat)(a0:YLExactRangeDia_0):Option R:=Fm call k a0
theorem F_eq(call:Cl)(k:Nat)(a0:YLExactRangeDia_0):bodyK E call n_laws_FnExactRangeDia k s_laws_FnExactRangeDia (a0,())=F call k a0:=by kernel_rfl
end laws_FnExactRangeDia
end Go.Proofs.YtjgfofcgmcnblaaGreat.Pf
namespace Go.Proofs.YtjgfofcgmcnblaaGreat.Pf
open Go Go.Pv
theorem rangeDia_law(p:Pg)(hl:Lens p):Ans n_laws_FnExactRangeDia s_laws_FnExactRangeDia (p,()) ((true,()),()):=by
  refine Gv.ans (Gv.of (fun k=>laws_FnExactRangeDia.F_eq (cl k) k p) ?_);unfold laws_FnExactRangeDia.F laws_FnExactRangeDia.Fm;refine Tq.bind (szProg_gv p hl).tq fun(y:(Int×Unit)×Unit) hy=>?_
  refine Tq.bif (fun _=>Tq.ret rfl) fun h0=>?_
  have h0:¬y.1.1<0:=of_decide_eq_false h0;have hs:=hy.resolve_left h0;obtain⟨d,d2,a1,a2⟩:=range_agree hs;have tp:=toProg_ans p hs;have ee:=eqDia_ans d2;have ep:=eqProg_ans p hs;refine Tq.ba tp (Tq.ba a1 (Tq.ba tp (Tq.ba a2 (Tq.ba ee (Tq.bf rfl (Tq.ba tp (Tq.ba ep (Tq.bf rfl ?_))))))));refine Tq.bind (markP_gv p hs).tq ?_;rintro y ⟨z,p',rfl,z0,z1⟩;refine Tq.bf (decide_eq_false (by dsimp only;omega)) (Tq.ba ee (Tq.bf rfl ?_));refine Tq.bind (markD_gv d2).tq ?_;rintro y ⟨u,l',rfl,u0,hH⟩;refine Tq.ba hH (Tq.bf (decide_eq_false (by dsimp only;omega)) (Tq.bf (bne_self_eq_false _) ?_));exact Tq.ba tp (Tq.ba a2 (Tq.ba ee (Tq.bf rfl (Tq.ba hH (Tq.bf (decide_eq_false (by dsimp only;omega)) (Tq.bf (bne_self_eq_false _) (Tq.ret rfl)))))))
end Go.Proofs.YtjgfofcgmcnblaaGreat.Pf
namespace Go.Proofs.YtjgfofcgmcnblaaGreat.fnExactRangeDia
open Go Go.Pv Pf
theorem pure:∀(a0:Ty.den (.pair (.int .i64) (.pair (.slc (.pair (.int .i64) (.pair (.int .i64) (.unit)))) (.pair (.slc (.pair (.int .i64) (.pair (.int .i64) (.unit)))) (.pair (.int .i64) (.pair (.slc (.int .i64)) (.pair (.slc (.pair (.int .i64) (.pair (.int .i64) (.pair (.slc (.pair (.int .i64) (.pair (.int .i64) (.unit)))) (.pair (.slc (.pair (.int .i64) (.pair (.int .i64) (.unit)))) (.unit)))))) (.unit))))))))(_:Fits (.pair (.int .i64) (.pair (.slc (.pair (.int .i64) (.pair (.int .i64) (.unit)))) (.pair (.slc (.pair (.int .i64) (.pair (.int .i64) (.unit)))) (.pair (.int .i64) (.pair (.slc (.int .i64)) (.pair (.slc (.pair (.int .i64) (.pair (.int .i64) (.pair (.slc (.pair (.int .i64) (.pair (.int .i64) (.unit)))) (.pair (.slc (.pair (.int .i64) (.pair (.int .i64) (.unit)))) (.unit)))))) (.unit))))))) a0),∃r:Sg.R Pf.s_laws_FnExactRangeDia|>.den,(∃k,sem Pf.E (fun _ _=>none) k Pf.n_laws_FnExactRangeDia Pf.s_laws_FnExactRangeDia (a0,())=some r)∧r.1.1=true:=by
  rintro p ⟨_,⟨f1,_⟩,⟨f2,_⟩,_,⟨f3,_⟩,⟨f4,f5⟩,_⟩;exact⟨_,(rangeDia_law p ⟨f1,f2,f3,f4,fun x hx=>⟨(f5 x hx).2.2.1.1,(f5 x hx).2.2.2.1.1⟩⟩).sem,rfl⟩
end Go.Proofs.YtjgfofcgmcnblaaGreat.fnExactRangeDia
namespace Go.Proofs.YtjgfofcgmcnblaaGreat.fnExactRangeDia
open Go.ChangeShapes Go.WideShapes Go.ChangeAt Go.RowKit Go.Pv
set_option linter.unusedVariables false
theorem own:ownKnob Tryz.prog.godebug=none:=by kernel_rfl
theorem mixed:Pf.E.P.follows .mixedOrders=true:=by kernel_rfl
theorem laidOut:laidOutB Tryz.prog=true:=by kernel_rfl
theorem tie0:(tie Pf.E (.pair (.int .i64) (.pair (.slc (.pair (.int .i64) (.pair (.int .i64) (.unit)))) (.pair (.slc (.pair (.int .i64) (.pair (.int .i64) (.unit)))) (.pair (.int .i64) (.pair (.slc (.int .i64)) (.pair (.slc (.pair (.int .i64) (.pair (.int .i64) (.pair (.slc (.pair (.int .i64) (.pair (.int .i64) (.unit)))) (.pair (.slc (.pair (.int .i64) (.pair (.int .i64) (.unit)))) (.unit)))))) (.unit)))))))).1 65=true:=by kernel_rfl
theorem sg:Pf.E.sg 14=some Pf.s_laws_FnExactRangeDia:=by kernel_rfl
set_option maxRecDepth 100000 in
theorem lifted(os:Os)(started:os.Started)(H:Type)(enc:TypeId×Value→H):
    ReturnsInHanded {} Tryz.checked os 14 .any (Rows.fnExactRangeDiaSpec.pre6 enc Tryz.prog Tryz.f14 Rows.fnExactRangeDiaRow.domain false) (Rows.fnExactRangeDiaSpec.post enc Tryz.prog Tryz.f14 false true false false):=by
  refine returnsInHanded_of_change_sized (C:=Tryz.checked) own started (by kernel_rfl) Tryz.func14
    (ChangeSpec.witness6 (enc:=enc) (C:=Tryz.checked) false ⟨#[],#[.agg #[.int .i64 0,.slice none 0 0,.slice none 0 0,.int .i64 0,.slice none 0 0,.slice none 0 0]],[]⟩ 8 (by kernel_rfl) (by kernel_rfl) (by kernel_rfl) (by kernel_rfl)) ?_
  intro W base args ds gs before hval0 hW hcnd hsz0 _;have hval:∀(j:Nat) t v,Tryz.f14.params[j]?=some t→args[j]?=some v→Value.okWide Tryz.prog W .any base t v:=hval0
  have hW':=hW;obtain⟨p,q,hA0,hV,rfl,hfz,hnd⟩:=hW;have hA:DataW.TrodAll enc Tryz.prog W 0 (fun _=>true) true Tryz.f14.params.toList args.toList ds p:=hA0;rw[Tryz.params14]at hA hval;obtain⟨v0,vs0,d0,ds0,p0,q0,hargs,rfl,rfl,h0,r0⟩:=trodAll_cons hA;obtain⟨rfl,rfl,rfl⟩:=trodAll_nil r0;obtain rfl:args=#[v0]:=by cases args;simp_all
  obtain⟨rfl,rfl⟩:=trodVars_none hV;obtain⟨a0,hx0⟩:=arg_rep Pf.hE tie0 (hval 0 65 v0 rfl rfl) h0;have lt0:∀x∈p0,x.block<W.heap.size:=by obtain⟨m,hm⟩:=h0;exact DataW.trod_lt m _ _ _ hm
  have ft0:Fits (.pair (.int .i64) (.pair (.slc (.pair (.int .i64) (.pair (.int .i64) (.unit)))) (.pair (.slc (.pair (.int .i64) (.pair (.int .i64) (.unit)))) (.pair (.int .i64) (.pair (.slc (.int .i64)) (.pair (.slc (.pair (.int .i64) (.pair (.int .i64) (.pair (.slc (.pair (.int .i64) (.pair (.int .i64) (.unit)))) (.pair (.slc (.pair (.int .i64) (.pair (.int .i64) (.unit)))) (.unit)))))) (.unit))))))) a0:=by obtain⟨_,cs,_,hc⟩:=hx0;exact hc.fits
  clear hA0 hval0 hsz0;obtain⟨r,hr,hr1⟩:=pure a0 ft0;refine(law_calls (E:=Pf.E) mixed Pf.hE sg rfl (l:=(a0,())) hr hr1 ⟨v0,_,rfl,hx0,rfl⟩).mono fun e W'⟨he,bel⟩=>?_
  subst he;exact⟨_,rfl,_,_,_,[],_,[],hW',trodAll_mk1 (shut_bool Tryz.underlying4 _),(trodAll_cons_mk (Below.trod laidOut (by kernel_rfl) (of_decide_eq_true (by kernel_rfl)) h0 bel lt0) trodAll_mk0),rfl,bel.frame _,fun h=>by cases h⟩
theorem over:Rows.fnExactRangeDiaRow.holds Tryz.pinned (OpenSpec.ofChange Rows.fnExactRangeDiaSpec):=
  OpenClaim.holds_of_wide 14 Tryz.f14 rfl rfl rfl rfl rfl rfl rfl ⟨rfl,rfl,rfl,rfl,rfl⟩ rfl rfl rfl rfl rfl (by kernel_rfl) Tryz.func14 (facts (by kernel_rfl))
    (of_decide_eq_true (by kernel_rfl)) (by unfold Func.isWrapper;first|(rw[if_pos (by decide+kernel)];kernel_rfl)|(rw[if_neg (by decide+kernel)];exact⟨rfl,rfl⟩))
    (fun os started H enc _=>lifted os started H enc)
theorem proved:Rows.FnExactRangeDiaSaid:=over
#print axioms proved
end Go.Proofs.YtjgfofcgmcnblaaGreat.fnExactRangeDia
namespace Go.Proofs.YtjgfofcgmcnblaaGreat
theorem fnExactRangeDia_holds:Rows.FnExactRangeDiaSaid:=fnExactRangeDia.proved
end Go.Proofs.YtjgfofcgmcnblaaGreat
