/- The law FnExactWeighShape answers yes: for all arguments, no condition. -/
import Derived.Test.YtjgfofcgmcnblaaGreatRows
import Derived.Test.YtjgfofcgmcnblaaGreatPfM3
import Derived.JoinedOf
import Derived.KernelRfl
import Derived.WalkKit
import Derived.ProofKit
import Derived.OpenShut
import Derived.ChangeOld
import Derived.Below
import Derived.Carry
import Derived.SizedLaws
set_option linter.all false
set_option maxHeartbeats 2000000
namespace Go.Proofs.YtjgfofcgmcnblaaGreat
open Go
theorem words_blank(r:List Char):wordsSigns (Char.ofNat 32::r)=[]::wordsSigns r:=rfl
theorem words_other(c:Char)(r:List Char)(h:c≠Char.ofNat 32)(w:List Char)(ws:List (List Char))(e:wordsSigns r=w::ws):wordsSigns (c::r)=(c::w)::ws:=by
  rw[wordsSigns,e];exact h
theorem words_cons:∀(a r:List Char),(a.all fun c=>c !=Char.ofNat 32)=true→wordsSigns (a++Char.ofNat 32::r)=a::wordsSigns r
  |[],r,_=>words_blank r
  | c::a,r,h=>by
    simp only[List.all_cons,Bool.and_eq_true,bne_iff_ne,ne_eq]at h;exact words_other c _ h.1 a _ (words_cons a r h.2)
def sg(l:List Nat):List Char:=l.map Char.ofNat
def h0:List Char:=sg [104,97,114,110,101,115,115]
def h1:List Char:=sg [56,102,100,57,102,54,99,102,48,53,100,97,97,101,48,48,53,98,49,52,102,97,56,102,51,50,99,99,56,49,101,102,101,101,51,55,101,102,50,102,97,53,54,57,51,50,99,100,101,57,57,52,99,50,100,97,55,97,51,99,55,101,52,56]
def h2:List Char:=sg [99,117,116]
def h3:List Char:=sg [97,116,32,108,111,111,112,46,101,120,97,109,112,108,101,47,103,48,48,54,57,55,47,108,97,119,115,46,70,110,86,97,108,117,101,66,105,116,115,32,108,111,111,112,46,101,120,97,109,112,108,101,47,103,48,48,54,57,55,47,108,97,119,115,46,70,110,87,101,105,103,104,32,108,111,111,112,46,101,120,97,109,112,108,101,47,103,48,48,54,57,55,47,108,97,119,115,46,70,110,69,120,97,99,116,77,111,115,116,74,111,105,110,116,32,108,111,111,112,46,101,120,97,109,112,108,101,47,103,48,48,54,57,55,47,108,97,119,115,46,70,110,69,120,97,99,116,77,111,115,116,70,111,114,32,108,111,111,112,46,101,120,97,109,112,108,101,47,103,48,48,54,57,55,47,108,97,119,115,46,70,110,83,104,97,112,101,115,32,108,111,111,112,46,101,120,97,109,112,108,101,47,103,48,48,54,57,55,47,108,97,119,115,46,70,110,77,111,115,116,32,108,111,111,112,46,101,120,97,109,112,108,101,47,103,48,48,54,57,55,47,108,97,119,115,46,70,110,69,120,97,99,116,65,108,108,79,117,116,99,111,109,101,115,32,108,111,111,112,46,101,120,97,109,112,108,101,47,103,48,48,54,57,55,47,108,97,119,115,46,70,110,69,120,97,99,116,79,100,100,115,79,102,32,108,111,111,112,46,101,120,97,109,112,108,101,47,103,48,48,54,57,55,47,108,97,119,115,46,70,110,69,120,97,99,116,87,101,105,103,104,32,108,111,111,112,46,101,120,97,109,112,108,101,47,103,48,48,54,57,55,47,108,97,119,115,46,70,110,69,120,97,99,116,83,104,97,112,101,115,79,102,32,108,111,111,112,46,101,120,97,109,112,108,101,47,103,48,48,54,57,55,47,108,97,119,115,46,70,110,69,120,97,99,116,87,101,105,103,104,83,104,97,112,101,32,108,111,111,112,46,101,120,97,109,112,108,101,47,103,48,48,54,57,55,47,108,97,119,115,46,70,110,69,120,97,99,116,82,97,110,103,101,68,105,97,32,108,111,111,112,46,101,120,97,109,112,108,101,47,103,48,48,54,57,55,47,108,97,119,115,46,70,110,69,120,97,99,116,83,104,97,112,101,68,105,97,32,108,111,111,112,46,101,120,97,109,112,108,101,47,103,48,48,54,57,55,47,108,97,119,115,46,70,110,69,120,97,99,116,67,108,97,115,115,83,105,122,101,115,32,108,111,111,112,46,101,120,97,109,112,108,101,47,103,48,48,54,57,55,47,108,97,119,115,46,70,110,69,120,97,99,116,86,97,108,117,101,68,105,97,32,108,111,111,112,46,101,120,97,109,112,108,101,47,103,48,48,54,57,55,47,108,97,119,115,46,70,110,69,120,97,99,116,79,117,116,99,111,109,101,115,79,102,32,108,111,111,112,46,101,120,97,109,112,108,101,47,103,48,48,54,57,55,47,108,97,119,115,46,70,110,69,120,97,99,116,74,117,100,103,101]
theorem head_is:Tryz.prog.initOrder=String.ofList (h0++Char.ofNat 32::(h1++Char.ofNat 32::(h2++Char.ofNat 32::h3))):=by kernel_rfl
theorem h0b:(h0.all fun c=>c !=Char.ofNat 32)=true:=by kernel_rfl
theorem h1b:(h1.all fun c=>c !=Char.ofNat 32)=true:=by kernel_rfl
theorem h2b:(h2.all fun c=>c !=Char.ofNat 32)=true:=by kernel_rfl
theorem head_words:wordsSigns Tryz.prog.initOrder.toList=h0::h1::h2::wordsSigns h3:=
  ((congrArg (fun s:String=>wordsSigns s.toList) head_is).trans (congrArg wordsSigns String.toList_ofList)).trans
    ((words_cons h0 _ h0b).trans (congrArg (h0:: ·) ((words_cons h1 _ h1b).trans (congrArg (h1:: ·) (words_cons h2 _ h2b)))))
theorem behind_is(r:List (List Char)):behindMainWord (h0::h1::h2::r)=h2::r:=by kernel_rfl
theorem behind:behindMainWord (wordsSigns Tryz.prog.initOrder.toList)=h2::wordsSigns h3:=(congrArg behindMainWord head_words).trans (behind_is _)
def makeOf(P:Program)(l:List (List Char)):Option Make:=
  match l with
  |c::rest=>if c== "gc".toList||c== "spec".toList then some .whole else if c== "cut".toList||(c== "finals".toList&&rest.head?==some "cut".toList)then some .cut else if c== "carried".toList then some .carried else if P.headLifts.isEmpty then none else some (.lifted P.headLifts)
  |[]=>none
theorem makeOf_cut(P:Program)(r:List (List Char)):makeOf P (h2::r)=some .cut:=by kernel_rfl
theorem make_eq(P:Program)(r:List (List Char))(h:behindMainWord (wordsSigns P.initOrder.toList)=h2::r):P.make=some .cut:=by
  have e:P.make=makeOf P (behindMainWord (wordsSigns P.initOrder.toList)):=rfl;rw[e,h];exact makeOf_cut P _
theorem lifts_of(P:Program)(r:List (List Char))(h:behindMainWord (wordsSigns P.initOrder.toList)=h2::r):P.liftsFinal=false:=by
  unfold Program.liftsFinal Program.headLifts;rw[h];kernel_rfl
def enterOf(P:Program)(l:List (List Char)):Bool:=
  match l with
  | c ::rest=>
    ((c== "gc".toList||c== "spec".toList)&&(rest.isEmpty||rest.head?==some "stop".toList))||
    (c== "carried".toList&&rest.take 2==["gc".toList, "cut".toList]&&!P.laysLater&&!P.bearsReflect)||
    ((stripLifts liftWords (c::rest)).2.head?==some "cut".toList&&
      ((stripLifts liftWords (c::rest)).1.contains "finals" ||!P.laysLater)&&((stripLifts liftWords (c::rest)).1.contains "reflectrows" ||!P.bearsReflect)&&
      ((stripLifts liftWords (c::rest)).1.contains "reflectrows" ||!(stripLifts liftWords (c::rest)).1.contains "leanrows")&&
      P.doorFits (stripLifts liftWords (c::rest)).1)
  |[]=>false
theorem enterOf_cut(r:List (List Char)):enterOf Tryz.prog (h2::r)=true:=by kernel_rfl
theorem enter_of(P:Program):P.mayEnter=enterOf P (behindMainWord (wordsSigns P.initOrder.toList)):=rfl
theorem make_is:Tryz.prog.make=some .cut:=make_eq _ _ behind
theorem lifts_is:Tryz.prog.liftsFinal=false:=lifts_of _ _ behind
theorem enter_is:Tryz.prog.mayEnter=true:=(enter_of Tryz.prog).trans ((congrArg (enterOf Tryz.prog) behind).trans (enterOf_cut _))
def restFacts(P:Program)(f:FuncId)(fn:Func)(s:ChangeSpec)(c:OpenClaim):Bool:=
  c.wf (OpenSpec.ofChange s)&&laidOutB P&&mapsRowed P&&
  fn.params.all (P.readableRec ·)&&namedTie P c.named s.vars&&
  (c.stops==[])&&(P.stops==[])&&(c.knobs==[])&&(P.stopKnobs==[])&&
  (c.inPlace==P.inPlace f)&&(c.unfollowed==P.unfollowed f)&&(c.recurses==P.recurses f)&&(c.named==P.varsNamed f)&&
  (c.maps==(fn.params.toList++s.plain.varTypes P).any (P.mapsRec ·))&&(c.ifaces==(fn.params.toList++s.plain.varTypes P).any (P.ifacesRec ·))&&(c.mapsOut==P.mapsAmong fn.resultTypes.toList)&&
  (c.loops==(fn.params.toList++s.plain.varTypes P).any (P.loopsFrom ·))&&(c.wideKeys==(fn.params.toList++s.plain.varTypes P++fn.resultTypes.toList).any (P.wideKeysFrom ·))&&
  s.vars.all (P.varReadable ·)&&fn.resultTypes.all (fun t=>P.readableRec t&&decide (t<P.types.size))&&(c.ifacesOut==fn.resultTypes.toList.any (P.ifacesRec ·))&&(c.loopsOut==fn.resultTypes.toList.any (P.loopsFrom ·))&&(c.plainKeys==P.plainKeys)&&c.shortTexts.isNone&&P.stopsHeard&&true&&(c.lifted==false)&&(some Make.cut==some c.make)&&(c.kinds==(if c.domain.isEmpty then[]else fn.params.toList.map fun t=>match P.underlying t with|some (.int k)=>some k| _=>none))&&(c.pinned==c.pinnedBy)&&
  (c.veiled==(fn.params.toList++s.plain.varTypes P++fn.resultTypes.toList).any (P.veiledRec ·))&&c.veiledFits P fn.params.toList (fn.params.toList++s.plain.varTypes P++fn.resultTypes.toList)
theorem closed_of(P:Program)(f:FuncId)(fn:Func)(s:ChangeSpec)(c:OpenClaim)(k1:P.make=some .cut)(k2:P.liftsFinal=false)(k3:P.mayEnter=true)(h:restFacts P f fn s c=true):joinedFacts P f fn s c=true:=by
  unfold joinedFacts;rw[k1,k2,k3];exact h
theorem facts {f:FuncId}{fn:Func}{s:ChangeSpec}{c:OpenClaim}(h:restFacts Tryz.prog f fn s c=true):joinedFacts Tryz.prog f fn s c=true:=closed_of _ _ _ _ _ make_is lifts_is enter_is h
end Go.Proofs.YtjgfofcgmcnblaaGreat
namespace Go.Proofs.YtjgfofcgmcnblaaGreat.Pf
open Go Go.Pv Go.Proofs
set_option maxRecDepth 100000
theorem fk11:FnE Tryz.prog 11 (Tryz.f11,s_laws_FnExactWeigh):=⟨Tryz.func11,by kernel_rfl⟩
theorem fk13:FnE Tryz.prog 13 (Tryz.f13,s_laws_FnExactWeighShape):=⟨Tryz.func13,by kernel_rfl⟩
theorem fk16:FnE Tryz.prog 16 (Tryz.f16,s_laws_FnExactClassSizes):=⟨Tryz.func16,by kernel_rfl⟩
theorem fk33:FnE Tryz.prog 33 (Tryz.f33,s_impl_Weigh):=⟨Tryz.func33,by kernel_rfl⟩
theorem fk35:FnE Tryz.prog 35 (Tryz.f35,s_impl_WeighShape):=⟨Tryz.func35,by kernel_rfl⟩
theorem fk36:FnE Tryz.prog 36 (Tryz.f36,s_impl_ClassSizes):=⟨Tryz.func36,by kernel_rfl⟩
theorem fk37:FnE Tryz.prog 37 (Tryz.f37,s_spec_OutcomesOf):=⟨Tryz.func37,by kernel_rfl⟩
theorem fk38:FnE Tryz.prog 38 (Tryz.f38,s_laws_szProg):=⟨Tryz.func38,by kernel_rfl⟩
theorem fk40:FnE Tryz.prog 40 (Tryz.f40,s_laws_toProg):=⟨Tryz.func40,by kernel_rfl⟩
theorem fk42:FnE Tryz.prog 42 (Tryz.f42,s_laws_eqProg):=⟨Tryz.func42,by kernel_rfl⟩
theorem fk55:FnE Tryz.prog 55 (Tryz.f55,s_laws_markProg):=⟨Tryz.func55,by kernel_rfl⟩
theorem fk59:FnE Tryz.prog 59 (Tryz.f59,s_laws_toInt64S):=⟨Tryz.func59,by kernel_rfl⟩
theorem fk61:FnE Tryz.prog 61 (Tryz.f61,s_laws_eqInt64S):=⟨Tryz.func61,by kernel_rfl⟩
theorem fk62:FnE Tryz.prog 62 (Tryz.f62,s_spec_Weigh):=⟨Tryz.func62,by kernel_rfl⟩
theorem fk63:FnE Tryz.prog 63 (Tryz.f63,s_laws_toBoolS):=⟨Tryz.func63,by kernel_rfl⟩
theorem fk64:FnE Tryz.prog 64 (Tryz.f64,s_laws_eqBoolS):=⟨Tryz.func64,by kernel_rfl⟩
theorem fk68:FnE Tryz.prog 68 (Tryz.f68,s_spec_WeighShape):=⟨Tryz.func68,by kernel_rfl⟩
theorem fk69:FnE Tryz.prog 69 (Tryz.f69,s_laws_toShape):=⟨Tryz.func69,by kernel_rfl⟩
theorem fk75:FnE Tryz.prog 75 (Tryz.f75,s_spec_ClassSizes):=⟨Tryz.func75,by kernel_rfl⟩
theorem fk76:FnE Tryz.prog 76 (Tryz.f76,s_laws_markInt64S):=⟨Tryz.func76,by kernel_rfl⟩
theorem fk77:FnE Tryz.prog 77 (Tryz.f77,s_laws_markBoolS):=⟨Tryz.func77,by kernel_rfl⟩
theorem fk78:FnE Tryz.prog 78 (Tryz.f78,s_laws_heldInt64S):=⟨Tryz.func78,by kernel_rfl⟩
theorem fk87:FnE Tryz.prog 87 (Tryz.f87,s_spec_ProgOk):=⟨Tryz.func87,by kernel_rfl⟩
theorem fk90:FnE Tryz.prog 90 (Tryz.f90,s_spec_l7Count):=⟨Tryz.func90,by kernel_rfl⟩
theorem fk91:FnE Tryz.prog 91 (Tryz.f91,s_spec_l7Maxes):=⟨Tryz.func91,by kernel_rfl⟩
theorem fk93:FnE Tryz.prog 93 (Tryz.f93,s_spec_StartOf):=⟨Tryz.func93,by kernel_rfl⟩
theorem fk94:FnE Tryz.prog 94 (Tryz.f94,s_spec_l3Bits):=⟨Tryz.func94,by kernel_rfl⟩
theorem fk98:FnE Tryz.prog 98 (Tryz.f98,s_impl_ProgOk):=⟨Tryz.func98,by kernel_rfl⟩
theorem fk101:FnE Tryz.prog 101 (Tryz.f101,s_impl_shapeOf):=⟨Tryz.func101,by kernel_rfl⟩
theorem fk104:FnE Tryz.prog 104 (Tryz.f104,s_impl_truth):=⟨Tryz.func104,by kernel_rfl⟩
theorem fk105:FnE Tryz.prog 105 (Tryz.f105,s_impl_tallyFor):=⟨Tryz.func105,by kernel_rfl⟩
theorem fk106:FnE Tryz.prog 106 (Tryz.f106,s_spec_l8Table):=⟨Tryz.func106,by kernel_rfl⟩
theorem fk108:FnE Tryz.prog 108 (Tryz.f108,s_spec_l15Shape):=⟨Tryz.func108,by kernel_rfl⟩
theorem fk109:FnE Tryz.prog 109 (Tryz.f109,s_spec_l8Right):=⟨Tryz.func109,by kernel_rfl⟩
theorem fk110:FnE Tryz.prog 110 (Tryz.f110,s_spec_l8Different):=⟨Tryz.func110,by kernel_rfl⟩
theorem fk111:FnE Tryz.prog 111 (Tryz.f111,s_spec_l8All):=⟨Tryz.func111,by kernel_rfl⟩
theorem fk112:FnE Tryz.prog 112 (Tryz.f112,s_laws_szInputS):=⟨Tryz.func112,by kernel_rfl⟩
theorem fk113:FnE Tryz.prog 113 (Tryz.f113,s_laws_szInt64S):=⟨Tryz.func113,by kernel_rfl⟩
theorem fk114:FnE Tryz.prog 114 (Tryz.f114,s_laws_szStmtS):=⟨Tryz.func114,by kernel_rfl⟩
theorem fk116:FnE Tryz.prog 116 (Tryz.f116,s_laws_toInputS):=⟨Tryz.func116,by kernel_rfl⟩
theorem fk117:FnE Tryz.prog 117 (Tryz.f117,s_laws_toStmtS):=⟨Tryz.func117,by kernel_rfl⟩
theorem fk121:FnE Tryz.prog 121 (Tryz.f121,s_laws_eqInputS):=⟨Tryz.func121,by kernel_rfl⟩
theorem fk122:FnE Tryz.prog 122 (Tryz.f122,s_laws_eqStmtS):=⟨Tryz.func122,by kernel_rfl⟩
theorem fk123:FnE Tryz.prog 123 (Tryz.f123,s_spec_l1In):=⟨Tryz.func123,by kernel_rfl⟩
theorem fk16600133:FnE Tryz.prog 16600133 (Tryz.f133,s_impl_tallyOf__impl_tallyFor_1):=⟨Tryz.func133,by kernel_rfl⟩
theorem fk136:FnE Tryz.prog 136 (Tryz.f136,s_laws_markInputS):=⟨Tryz.func136,by kernel_rfl⟩
theorem fk137:FnE Tryz.prog 137 (Tryz.f137,s_laws_markStmtS):=⟨Tryz.func137,by kernel_rfl⟩
theorem fk143:FnE Tryz.prog 143 (Tryz.f143,s_spec_LikeOutcomes):=⟨Tryz.func143,by kernel_rfl⟩
theorem fk144:FnE Tryz.prog 144 (Tryz.f144,s_spec_l3AllBits):=⟨Tryz.func144,by kernel_rfl⟩
theorem fk145:FnE Tryz.prog 145 (Tryz.f145,s_spec_CodeOf):=⟨Tryz.func145,by kernel_rfl⟩
theorem fk147:FnE Tryz.prog 147 (Tryz.f147,s_impl_CodeOf):=⟨Tryz.func147,by kernel_rfl⟩
theorem fk154:FnE Tryz.prog 154 (Tryz.f154,s_spec_l7At):=⟨Tryz.func154,by kernel_rfl⟩
theorem fk155:FnE Tryz.prog 155 (Tryz.f155,s_spec_l6Run):=⟨Tryz.func155,by kernel_rfl⟩
theorem fk160:FnE Tryz.prog 160 (Tryz.f160,s_impl_manyInputs):=⟨Tryz.func160,by kernel_rfl⟩
theorem fk161:FnE Tryz.prog 161 (Tryz.f161,s_impl_inputOf):=⟨Tryz.func161,by kernel_rfl⟩
theorem fk162:FnE Tryz.prog 162 (Tryz.f162,s_impl_ran):=⟨Tryz.func162,by kernel_rfl⟩
theorem fk164:FnE Tryz.prog 164 (Tryz.f164,s_impl_StartOf):=⟨Tryz.func164,by kernel_rfl⟩
theorem fk165:FnE Tryz.prog 165 (Tryz.f165,s_impl_tallyFor_1):=⟨Tryz.func165,by kernel_rfl⟩
theorem fk166:FnE Tryz.prog 166 (Tryz.f166,s_impl_sameLists):=⟨Tryz.func166,by kernel_rfl⟩
theorem fk167:FnE Tryz.prog 167 (Tryz.f167,s_spec_l6Of):=⟨Tryz.func167,by kernel_rfl⟩
theorem fk169:FnE Tryz.prog 169 (Tryz.f169,s_spec_l8In):=⟨Tryz.func169,by kernel_rfl⟩
theorem fk170:FnE Tryz.prog 170 (Tryz.f170,s_spec_l8Fits):=⟨Tryz.func170,by kernel_rfl⟩
theorem fk171:FnE Tryz.prog 171 (Tryz.f171,s_laws_szStmt):=⟨Tryz.func171,by kernel_rfl⟩
theorem fk172:FnE Tryz.prog 172 (Tryz.f172,s_spec_l1Max):=⟨Tryz.func172,by kernel_rfl⟩
theorem fk173:FnE Tryz.prog 173 (Tryz.f173,s_laws_toInput):=⟨Tryz.func173,by kernel_rfl⟩
theorem fk174:FnE Tryz.prog 174 (Tryz.f174,s_laws_toStmt):=⟨Tryz.func174,by kernel_rfl⟩
theorem fk175:FnE Tryz.prog 175 (Tryz.f175,s_impl_tally_add):=⟨Tryz.func175,by kernel_rfl⟩
theorem fk176:FnE Tryz.prog 176 (Tryz.f176,s_laws_eqInput):=⟨Tryz.func176,by kernel_rfl⟩
theorem fk177:FnE Tryz.prog 177 (Tryz.f177,s_laws_eqStmt):=⟨Tryz.func177,by kernel_rfl⟩
theorem fk178:FnE Tryz.prog 178 (Tryz.f178,s_impl_allInputs):=⟨Tryz.func178,by kernel_rfl⟩
theorem fk179:FnE Tryz.prog 179 (Tryz.f179,s_impl_bitsOf):=⟨Tryz.func179,by kernel_rfl⟩
theorem fk182:FnE Tryz.prog 182 (Tryz.f182,s_laws_markTermS):=⟨Tryz.func182,by kernel_rfl⟩
theorem fk188:FnE Tryz.prog 188 (Tryz.f188,s_spec_l3Inputs):=⟨Tryz.func188,by kernel_rfl⟩
theorem fk189:FnE Tryz.prog 189 (Tryz.f189,s_spec_l3Room):=⟨Tryz.func189,by kernel_rfl⟩
theorem fk190:FnE Tryz.prog 190 (Tryz.f190,s_spec_l3Stmts):=⟨Tryz.func190,by kernel_rfl⟩
theorem fk191:FnE Tryz.prog 191 (Tryz.f191,s_spec_l3Block):=⟨Tryz.func191,by kernel_rfl⟩
theorem fk192:FnE Tryz.prog 192 (Tryz.f192,s_spec_l3Steps):=⟨Tryz.func192,by kernel_rfl⟩
theorem fk195:FnE Tryz.prog 195 (Tryz.f195,s_impl_inputRight):=⟨Tryz.func195,by kernel_rfl⟩
theorem fk196:FnE Tryz.prog 196 (Tryz.f196,s_impl_roomRight):=⟨Tryz.func196,by kernel_rfl⟩
theorem fk197:FnE Tryz.prog 197 (Tryz.f197,s_impl_stmtRight):=⟨Tryz.func197,by kernel_rfl⟩
theorem fk198:FnE Tryz.prog 198 (Tryz.f198,s_impl_nodesOf):=⟨Tryz.func198,by kernel_rfl⟩
theorem fk199:FnE Tryz.prog 199 (Tryz.f199,s_impl_stepsIn):=⟨Tryz.func199,by kernel_rfl⟩
theorem fk204:FnE Tryz.prog 204 (Tryz.f204,s_spec_l3End):=⟨Tryz.func204,by kernel_rfl⟩
theorem fk205:FnE Tryz.prog 205 (Tryz.f205,s_spec_l5Value):=⟨Tryz.func205,by kernel_rfl⟩
theorem fk206:FnE Tryz.prog 206 (Tryz.f206,s_spec_l6Trap):=⟨Tryz.func206,by kernel_rfl⟩
theorem fk207:FnE Tryz.prog 207 (Tryz.f207,s_spec_l6Stmt):=⟨Tryz.func207,by kernel_rfl⟩
theorem fk209:FnE Tryz.prog 209 (Tryz.f209,s_impl_startAt):=⟨Tryz.func209,by kernel_rfl⟩
theorem fk210:FnE Tryz.prog 210 (Tryz.f210,s_impl_machine_do):=⟨Tryz.func210,by kernel_rfl⟩
theorem fk211:FnE Tryz.prog 211 (Tryz.f211,s_impl_within):=⟨Tryz.func211,by kernel_rfl⟩
theorem fk212:FnE Tryz.prog 212 (Tryz.f212,s_laws_szTermS):=⟨Tryz.func212,by kernel_rfl⟩
theorem fk213:FnE Tryz.prog 213 (Tryz.f213,s_laws_toTermS):=⟨Tryz.func213,by kernel_rfl⟩
theorem fk214:FnE Tryz.prog 214 (Tryz.f214,s_impl_keyOf):=⟨Tryz.func214,by kernel_rfl⟩
theorem fk215:FnE Tryz.prog 215 (Tryz.f215,s_laws_eqTermS):=⟨Tryz.func215,by kernel_rfl⟩
theorem fk217:FnE Tryz.prog 217 (Tryz.f217,s_spec_l5Bit):=⟨Tryz.func217,by kernel_rfl⟩
theorem fk219:FnE Tryz.prog 219 (Tryz.f219,s_spec_l3Size):=⟨Tryz.func219,by kernel_rfl⟩
theorem fk220:FnE Tryz.prog 220 (Tryz.f220,s_spec_l3Stmt):=⟨Tryz.func220,by kernel_rfl⟩
theorem fk224:FnE Tryz.prog 224 (Tryz.f224,s_impl_greatest):=⟨Tryz.func224,by kernel_rfl⟩
theorem fk225:FnE Tryz.prog 225 (Tryz.f225,s_impl_inputsOf):=⟨Tryz.func225,by kernel_rfl⟩
theorem fk226:FnE Tryz.prog 226 (Tryz.f226,s_impl_varsOf):=⟨Tryz.func226,by kernel_rfl⟩
theorem fk227:FnE Tryz.prog 227 (Tryz.f227,s_impl_holdsPlace):=⟨Tryz.func227,by kernel_rfl⟩
theorem fk228:FnE Tryz.prog 228 (Tryz.f228,s_impl_nester_many):=⟨Tryz.func228,by kernel_rfl⟩
theorem fk232:FnE Tryz.prog 232 (Tryz.f232,s_spec_l3Is):=⟨Tryz.func232,by kernel_rfl⟩
theorem fk233:FnE Tryz.prog 233 (Tryz.f233,s_spec_TakesOf):=⟨Tryz.func233,by kernel_rfl⟩
theorem fk234:FnE Tryz.prog 234 (Tryz.f234,s_spec_l5Op):=⟨Tryz.func234,by kernel_rfl⟩
theorem fk235:FnE Tryz.prog 235 (Tryz.f235,s_impl_machine_step):=⟨Tryz.func235,by kernel_rfl⟩
theorem fk236:FnE Tryz.prog 236 (Tryz.f236,s_laws_toTerm):=⟨Tryz.func236,by kernel_rfl⟩
theorem fk237:FnE Tryz.prog 237 (Tryz.f237,s_laws_eqTerm):=⟨Tryz.func237,by kernel_rfl⟩
theorem fk238:FnE Tryz.prog 238 (Tryz.f238,s_spec_l3Exp):=⟨Tryz.func238,by kernel_rfl⟩
theorem fk240:FnE Tryz.prog 240 (Tryz.f240,s_impl_mayStand):=⟨Tryz.func240,by kernel_rfl⟩
theorem fk241:FnE Tryz.prog 241 (Tryz.f241,s_impl_nester_is):=⟨Tryz.func241,by kernel_rfl⟩
theorem fk242:FnE Tryz.prog 242 (Tryz.f242,s_impl_nester_one):=⟨Tryz.func242,by kernel_rfl⟩
theorem fk244:FnE Tryz.prog 244 (Tryz.f244,s_spec_l5Bits):=⟨Tryz.func244,by kernel_rfl⟩
theorem fk245:FnE Tryz.prog 245 (Tryz.f245,s_spec_l5Shift):=⟨Tryz.func245,by kernel_rfl⟩
theorem fk246:FnE Tryz.prog 246 (Tryz.f246,s_impl_machine_put):=⟨Tryz.func246,by kernel_rfl⟩
theorem fk247:FnE Tryz.prog 247 (Tryz.f247,s_impl_catchOf):=⟨Tryz.func247,by kernel_rfl⟩
theorem fk248:FnE Tryz.prog 248 (Tryz.f248,s_impl_machine_value):=⟨Tryz.func248,by kernel_rfl⟩
theorem fk249:FnE Tryz.prog 249 (Tryz.f249,s_spec_l3Names):=⟨Tryz.func249,by kernel_rfl⟩
theorem fk252:FnE Tryz.prog 252 (Tryz.f252,s_impl_reckonable):=⟨Tryz.func252,by kernel_rfl⟩
theorem fk253:FnE Tryz.prog 253 (Tryz.f253,s_impl_EndOf):=⟨Tryz.func253,by kernel_rfl⟩
theorem fk254:FnE Tryz.prog 254 (Tryz.f254,s_impl_reckon):=⟨Tryz.func254,by kernel_rfl⟩
theorem fk255:FnE Tryz.prog 255 (Tryz.f255,s_spec_ExpOk):=⟨Tryz.func255,by kernel_rfl⟩
theorem fk256:FnE Tryz.prog 256 (Tryz.f256,s_spec_l3Vars):=⟨Tryz.func256,by kernel_rfl⟩
theorem fk257:FnE Tryz.prog 257 (Tryz.f257,s_impl_ExpOk):=⟨Tryz.func257,by kernel_rfl⟩
theorem fk258:FnE Tryz.prog 258 (Tryz.f258,s_impl_TakesOf):=⟨Tryz.func258,by kernel_rfl⟩
theorem fk259:FnE Tryz.prog 259 (Tryz.f259,s_impl_turn):=⟨Tryz.func259,by kernel_rfl⟩
theorem fk260:FnE Tryz.prog 260 (Tryz.f260,s_impl_join):=⟨Tryz.func260,by kernel_rfl⟩
theorem T {i:TI}{n:Nat}(h1:(Tryz.prog.info? n).map (fun inf=>(inf.size,inf.bytes,inf.zero))=some (i.size,i.bytes,some (zOf i)):=by kernel_rfl)(h2:tiB Tryz.prog n i=true:=by kernel_rfl):TIok Tryz.prog i n:=tiOk h1 h2
theorem hE:EnvOk E:=envOk [(11,Tryz.f11,s_laws_FnExactWeigh),(13,Tryz.f13,s_laws_FnExactWeighShape),(16,Tryz.f16,s_laws_FnExactClassSizes),(33,Tryz.f33,s_impl_Weigh),(35,Tryz.f35,s_impl_WeighShape),(36,Tryz.f36,s_impl_ClassSizes),(37,Tryz.f37,s_spec_OutcomesOf),(38,Tryz.f38,s_laws_szProg),(40,Tryz.f40,s_laws_toProg),(42,Tryz.f42,s_laws_eqProg),(55,Tryz.f55,s_laws_markProg),(59,Tryz.f59,s_laws_toInt64S),(61,Tryz.f61,s_laws_eqInt64S),(62,Tryz.f62,s_spec_Weigh),(63,Tryz.f63,s_laws_toBoolS),(64,Tryz.f64,s_laws_eqBoolS),(68,Tryz.f68,s_spec_WeighShape),(69,Tryz.f69,s_laws_toShape),(75,Tryz.f75,s_spec_ClassSizes),(76,Tryz.f76,s_laws_markInt64S),(77,Tryz.f77,s_laws_markBoolS),(78,Tryz.f78,s_laws_heldInt64S),(87,Tryz.f87,s_spec_ProgOk),(90,Tryz.f90,s_spec_l7Count),(91,Tryz.f91,s_spec_l7Maxes),(93,Tryz.f93,s_spec_StartOf),(94,Tryz.f94,s_spec_l3Bits),(98,Tryz.f98,s_impl_ProgOk),(101,Tryz.f101,s_impl_shapeOf),(104,Tryz.f104,s_impl_truth),(105,Tryz.f105,s_impl_tallyFor),(106,Tryz.f106,s_spec_l8Table),(108,Tryz.f108,s_spec_l15Shape),(109,Tryz.f109,s_spec_l8Right),(110,Tryz.f110,s_spec_l8Different),(111,Tryz.f111,s_spec_l8All),(112,Tryz.f112,s_laws_szInputS),(113,Tryz.f113,s_laws_szInt64S),(114,Tryz.f114,s_laws_szStmtS),(116,Tryz.f116,s_laws_toInputS),(117,Tryz.f117,s_laws_toStmtS),(121,Tryz.f121,s_laws_eqInputS),(122,Tryz.f122,s_laws_eqStmtS),(123,Tryz.f123,s_spec_l1In),(16600133,Tryz.f133,s_impl_tallyOf__impl_tallyFor_1),(136,Tryz.f136,s_laws_markInputS),(137,Tryz.f137,s_laws_markStmtS),(143,Tryz.f143,s_spec_LikeOutcomes),(144,Tryz.f144,s_spec_l3AllBits),(145,Tryz.f145,s_spec_CodeOf),(147,Tryz.f147,s_impl_CodeOf),(154,Tryz.f154,s_spec_l7At),(155,Tryz.f155,s_spec_l6Run),(160,Tryz.f160,s_impl_manyInputs),(161,Tryz.f161,s_impl_inputOf),(162,Tryz.f162,s_impl_ran),(164,Tryz.f164,s_impl_StartOf),(165,Tryz.f165,s_impl_tallyFor_1),(166,Tryz.f166,s_impl_sameLists),(167,Tryz.f167,s_spec_l6Of),(169,Tryz.f169,s_spec_l8In),(170,Tryz.f170,s_spec_l8Fits),(171,Tryz.f171,s_laws_szStmt),(172,Tryz.f172,s_spec_l1Max),(173,Tryz.f173,s_laws_toInput),(174,Tryz.f174,s_laws_toStmt),(175,Tryz.f175,s_impl_tally_add),(176,Tryz.f176,s_laws_eqInput),(177,Tryz.f177,s_laws_eqStmt),(178,Tryz.f178,s_impl_allInputs),(179,Tryz.f179,s_impl_bitsOf),(182,Tryz.f182,s_laws_markTermS),(188,Tryz.f188,s_spec_l3Inputs),(189,Tryz.f189,s_spec_l3Room),(190,Tryz.f190,s_spec_l3Stmts),(191,Tryz.f191,s_spec_l3Block),(192,Tryz.f192,s_spec_l3Steps),(195,Tryz.f195,s_impl_inputRight),(196,Tryz.f196,s_impl_roomRight),(197,Tryz.f197,s_impl_stmtRight),(198,Tryz.f198,s_impl_nodesOf),(199,Tryz.f199,s_impl_stepsIn),(204,Tryz.f204,s_spec_l3End),(205,Tryz.f205,s_spec_l5Value),(206,Tryz.f206,s_spec_l6Trap),(207,Tryz.f207,s_spec_l6Stmt),(209,Tryz.f209,s_impl_startAt),(210,Tryz.f210,s_impl_machine_do),(211,Tryz.f211,s_impl_within),(212,Tryz.f212,s_laws_szTermS),(213,Tryz.f213,s_laws_toTermS),(214,Tryz.f214,s_impl_keyOf),(215,Tryz.f215,s_laws_eqTermS),(217,Tryz.f217,s_spec_l5Bit),(219,Tryz.f219,s_spec_l3Size),(220,Tryz.f220,s_spec_l3Stmt),(224,Tryz.f224,s_impl_greatest),(225,Tryz.f225,s_impl_inputsOf),(226,Tryz.f226,s_impl_varsOf),(227,Tryz.f227,s_impl_holdsPlace),(228,Tryz.f228,s_impl_nester_many),(232,Tryz.f232,s_spec_l3Is),(233,Tryz.f233,s_spec_TakesOf),(234,Tryz.f234,s_spec_l5Op),(235,Tryz.f235,s_impl_machine_step),(236,Tryz.f236,s_laws_toTerm),(237,Tryz.f237,s_laws_eqTerm),(238,Tryz.f238,s_spec_l3Exp),(240,Tryz.f240,s_impl_mayStand),(241,Tryz.f241,s_impl_nester_is),(242,Tryz.f242,s_impl_nester_one),(244,Tryz.f244,s_spec_l5Bits),(245,Tryz.f245,s_spec_l5Shift),(246,Tryz.f246,s_impl_machine_put),(247,Tryz.f247,s_impl_catchOf),(248,Tryz.f248,s_impl_machine_value),(249,Tryz.f249,s_spec_l3Names),(252,Tryz.f252,s_impl_reckonable),(253,Tryz.f253,s_impl_EndOf),(254,Tryz.f254,s_impl_reckon),(255,Tryz.f255,s_spec_ExpOk),(256,Tryz.f256,s_spec_l3Vars),(257,Tryz.f257,s_impl_ExpOk),(258,Tryz.f258,s_impl_TakesOf),(259,Tryz.f259,s_impl_turn),(260,Tryz.f260,s_impl_join)]
  (by kernel_rfl) (by kernel_rfl) ⟨fk11,fk13,fk16,fk33,fk35,fk36,fk37,fk38,fk40,fk42,fk55,fk59,fk61,fk62,fk63,fk64,fk68,fk69,fk75,fk76,fk77,fk78,fk87,fk90,fk91,fk93,fk94,fk98,fk101,fk104,fk105,fk106,fk108,fk109,fk110,fk111,fk112,fk113,fk114,fk116,fk117,fk121,fk122,fk123,fk16600133,fk136,fk137,fk143,fk144,fk145,fk147,fk154,fk155,fk160,fk161,fk162,fk164,fk165,fk166,fk167,fk169,fk170,fk171,fk172,fk173,fk174,fk175,fk176,fk177,fk178,fk179,fk182,fk188,fk189,fk190,fk191,fk192,fk195,fk196,fk197,fk198,fk199,fk204,fk205,fk206,fk207,fk209,fk210,fk211,fk212,fk213,fk214,fk215,fk217,fk219,fk220,fk224,fk225,fk226,fk227,fk228,fk232,fk233,fk234,fk235,fk236,fk237,fk238,fk240,fk241,fk242,fk244,fk245,fk246,fk247,fk248,fk249,fk252,fk253,fk254,fk255,fk256,fk257,fk258,fk259,fk260,trivial⟩
  ⟨T,T,T,T,T,T,T,T,T,T,T,T,T,T,T,T,T,T,T,T,T,T,T,T,T,T,T,T,T,T,T,T,T,T,T,T,T,T,T,T,T,T,T,T,T,T,T,T,T,T,T,T,T,T,T,T,T,T,T,T,T,T,T,T,T,T,T,T,T,T,T,T,T,T,T,T,T,T,T,T,T,T,T,T,T,T,T,T,T,T,T,T,T,T,T,T,T,T,T,T,trivial⟩ (by kernel_rfl)
end Go.Proofs.YtjgfofcgmcnblaaGreat.Pf
namespace Go.Proofs.YtjgfofcgmcnblaaGreat.Pf
open Go Go.Pv IntKind
abbrev YLExactWeighShape_0:Type:=(Int×((List (Int×(Int×Unit)))×((List (Int×(Int×Unit)))×(Int×((List Int)×((List (Int×(Int×((List (Int×(Int×Unit)))×((List (Int×(Int×Unit)))×Unit)))))×Unit))))))
abbrev YLExactWeighShape_1:Type:=(((Int×List (Int×Int×Unit)×List (Int×Int×Unit)×Int×List Int×List (Int×Int×List (Int×Int×Unit)×List (Int×Int×Unit)×Unit)×Unit)×Unit)×Unit)
abbrev YLExactWeighShape_2:Type:=((List Bool×Unit)×Unit)
abbrev YLExactWeighShape_3:Type:=(Int×(Int×(Int×Unit)))
abbrev YLExactWeighShape_4:Type:=((List Int×Unit)×Unit)
namespace laws_FnExactWeighShape
abbrev R:=((Bool×Unit)×Unit)
def Fm(call:Cl)(k:Nat)(a0:YLExactWeighShape_0)(a1:(List Int))(a2:(List Int))(a3:(List Bool))(a4:YLExactWeighShape_3):Option R:=bif decide ((↑a1.length:Int)>1048576)then some ((true,()),())else bif decide ((↑a2.length:Int)>1048576)then some ((true,()),())else bif decide ((↑a3.length:Int)>1048576)then some ((true,()),())else(call 38 s_laws_szProg (a0,1048576,())).bind fun(y0:(Int×Unit)×Unit)=>bif decide (y0.1.1<0)then some ((true,()),())else(call 40 s_laws_toProg (a0,())).bind fun(y1:YLExactWeighShape_1)=>(call 59 s_laws_toInt64S (a1,())).bind fun(y2:YLExactWeighShape_4)=>(call 59 s_laws_toInt64S (a2,())).bind fun(y3:YLExactWeighShape_4)=>(call 63 s_laws_toBoolS (a3,())).bind fun(y4:YLExactWeighShape_2)=>(call 69 s_laws_toShape (a4,())).bind fun(y5:(((Int×Int×Int×Unit)×Unit)×Unit))=>(call 68 s_spec_WeighShape (y1.1.1,y2.1.1,y3.1.1,y4.1.1,y5.1.1,())).bind fun(y6:(Int×Unit)×Unit)=>(call 40 s_laws_toProg (a0,())).bind fun(y7:YLExactWeighShape_1)=>(call 59 s_laws_toInt64S (a1,())).bind fun(y8:YLExactWeighShape_4)=>(call 59 s_laws_toInt64S (a2,())).bind fun(y9:YLExactWeighShape_4)=>(call 63 s_laws_toBoolS (a3,())).bind fun(y10:YLExactWeighShape_2)=>(call 69 s_laws_toShape (a4,())).bind fun(y11:(((Int×Int×Int×Unit)×Unit)×Unit))=>(call 35 s_impl_WeighShape (y7.1.1,y8.1.1,y9.1.1,y10.1.1,y11.1.1,())).bind fun(y12:(Int×Unit)×Unit)=>bif y12.1.1!=y6.1.1 then some ((false,()),())else(call 40 s_laws_toProg (a0,())).bind fun(y13:YLExactWeighShape_1)=>(call 42 s_laws_eqProg (y7.1.1,y13.1.1,())).bind fun(y14:(Bool×Unit)×Unit)=>bif !y14.1.1 then some ((false,()),())else(call 59 s_laws_toInt64S (a1,())).bind fun(y15:YLExactWeighShape_4)=>(call 61 s_laws_eqInt64S (y8.1.1,y15.1.1,())).bind fun(y16:(Bool×Unit)×Unit)=>bif !y16.1.1 then some ((false,()),())else(call 59 s_laws_toInt64S (a2,())).bind fun(y17:YLExactWeighShape_4)=>(call 61 s_laws_eqInt64S (y9.1.1,y17.1.1,())).bind fun(y18:(Bool×Unit)×Unit)=>bif !y18.1.1 then some ((false,()),())else(call 63 s_laws_toBoolS (a3,())).bind fun(y19:YLExactWeighShape_2)=>(call 64 s_laws_eqBoolS (y10.1.1,y19.1.1,())).bind fun(y20:(Bool×Unit)×Unit)=>bif !y20.1.1 then some ((false,()),())else some ((true,()),())
def F(call:Cl)(k:Nat)(a0:YLExactWeighShape_0)(a1:(List Int))(a2:(List Int))(a3:(List Bool))(a4:YLExactWeighShape_3):Option R:=Fm call k a0 a1 a2 a3 a4
theorem F_eq(call:Cl)(k:Nat)(a0:YLExactWeighShape_0)(a1:(List Int))(a2:(List Int))(a3:(List Bool))(a4:YLExactWeighShape_3):bodyK E call n_laws_FnExactWeighShape k s_laws_FnExactWeighShape (a0,a1,a2,a3,a4,())=F call k a0 a1 a2 a3 a4:=by kernel_rfl
end laws_FnExactWeighShape
end Go.Proofs.YtjgfofcgmcnblaaGreat.Pf
namespace Go.Proofs.YtjgfofcgmcnblaaGreat.Pf
open Go Go.Pv
theorem weighShape_law(p:Pg)(l s:List Int)(f:List Bool)(sh:Sh)(hl:Lens p)(h1:l.length≤maxLen)(h2:s.length≤maxLen)(h3:f.length≤maxLen):Ans n_laws_FnExactWeighShape s_laws_FnExactWeighShape (p,l,s,f,sh,()) ((true,()),()):=by
  refine Gv.ans (Gv.of (fun k=>laws_FnExactWeighShape.F_eq (cl k) k p l s f sh) ?_);unfold laws_FnExactWeighShape.F laws_FnExactWeighShape.Fm;refine Tq.bif (fun _=>Tq.ret rfl) fun c1=>Tq.bif (fun _=>Tq.ret rfl) fun c2=>Tq.bif (fun _=>Tq.ret rfl) fun c3=>?_
  have c1:=of_decide_eq_false c1;have c2:=of_decide_eq_false c2;have c3:=of_decide_eq_false c3;have b1:l.length≤1048576:=by omega
  have b2:s.length≤1048576:=by omega
  have b3:f.length≤1048576:=by omega
  refine Tq.bind (szProg_gv p hl).tq fun(y:(Int×Unit)×Unit) hy=>?_
  refine Tq.bif (fun _=>Tq.ret rfl) fun h0=>?_
  have h0:¬y.1.1<0:=of_decide_eq_false h0;have hs:=hy.resolve_left h0;have tp:=toProg_ans p hs;have t1:=toInt64S_ans l b1;have t2:=toInt64S_ans s b2;have t3:=toBoolS_ans f b3;have ep:=eqProg_ans p hs;have e1:=eqInt64S_ans l b1;have e2:=eqInt64S_ans s b2;have e3:=eqBoolS_ans f b3;obtain⟨x,a1,a2⟩:=weighS_agree hs b1 b2 (free:=f) sh;have t4:Ans n_laws_toShape s_laws_toShape (sh,()) ((sh,()),()):=Gv.ans (Gv.of (fun k=>laws_toShape.F_eq (cl k) k sh) (Tq.ret rfl));refine Tq.ba tp (Tq.ba t1 (Tq.ba t2 (Tq.ba t3 (Tq.ba t4 (Tq.ba a1 (Tq.ba tp (Tq.ba t1 (Tq.ba t2 (Tq.ba t3 (Tq.ba t4 (Tq.ba a2 (Tq.bf (bne_self_eq_false _) ?_))))))))))));exact Tq.ba tp (Tq.ba ep (Tq.bf rfl (Tq.ba t1 (Tq.ba e1 (Tq.bf rfl (Tq.ba t2 (Tq.ba e2 (Tq.bf rfl (Tq.ba t3 (Tq.ba e3 (Tq.bf rfl (Tq.ret rfl))))))))))))
end Go.Proofs.YtjgfofcgmcnblaaGreat.Pf
namespace Go.Proofs.YtjgfofcgmcnblaaGreat.fnExactWeighShape
open Go Go.Pv Pf
theorem pure:∀(a0:Ty.den (.pair (.int .i64) (.pair (.slc (.pair (.int .i64) (.pair (.int .i64) (.unit)))) (.pair (.slc (.pair (.int .i64) (.pair (.int .i64) (.unit)))) (.pair (.int .i64) (.pair (.slc (.int .i64)) (.pair (.slc (.pair (.int .i64) (.pair (.int .i64) (.pair (.slc (.pair (.int .i64) (.pair (.int .i64) (.unit)))) (.pair (.slc (.pair (.int .i64) (.pair (.int .i64) (.unit)))) (.unit)))))) (.unit))))))))(_:Fits (.pair (.int .i64) (.pair (.slc (.pair (.int .i64) (.pair (.int .i64) (.unit)))) (.pair (.slc (.pair (.int .i64) (.pair (.int .i64) (.unit)))) (.pair (.int .i64) (.pair (.slc (.int .i64)) (.pair (.slc (.pair (.int .i64) (.pair (.int .i64) (.pair (.slc (.pair (.int .i64) (.pair (.int .i64) (.unit)))) (.pair (.slc (.pair (.int .i64) (.pair (.int .i64) (.unit)))) (.unit)))))) (.unit))))))) a0)(a1:Ty.den (.slc (.int .i64)))(_:Fits (.slc (.int .i64)) a1)(a2:Ty.den (.slc (.int .i64)))(_:Fits (.slc (.int .i64)) a2)(a3:Ty.den (.slc (.bool)))(_:Fits (.slc (.bool)) a3)(a4:Ty.den (.pair (.int .i64) (.pair (.int .i64) (.pair (.int .i64) (.unit)))))(_:Fits (.pair (.int .i64) (.pair (.int .i64) (.pair (.int .i64) (.unit)))) a4),∃r:Sg.R Pf.s_laws_FnExactWeighShape|>.den,(∃k,sem Pf.E (fun _ _=>none) k Pf.n_laws_FnExactWeighShape Pf.s_laws_FnExactWeighShape (a0,(a1,(a2,(a3,(a4,())))))=some r)∧r.1.1=true:=by
  rintro p ⟨_,⟨f1,_⟩,⟨f2,_⟩,_,⟨f3,_⟩,⟨f4,f5⟩,_⟩ l ⟨g1,_⟩ s ⟨g2,_⟩ f ⟨g3,_⟩ sh _;exact⟨_,(weighShape_law p l s f sh ⟨f1,f2,f3,f4,fun x hx=>⟨(f5 x hx).2.2.1.1,(f5 x hx).2.2.2.1.1⟩⟩ g1 g2 g3).sem,rfl⟩
end Go.Proofs.YtjgfofcgmcnblaaGreat.fnExactWeighShape
namespace Go.Proofs.YtjgfofcgmcnblaaGreat.fnExactWeighShape
open Go.ChangeShapes Go.WideShapes Go.ChangeAt Go.RowKit Go.Pv
set_option linter.unusedVariables false
theorem own:ownKnob Tryz.prog.godebug=none:=by kernel_rfl
theorem mixed:Pf.E.P.follows .mixedOrders=true:=by kernel_rfl
theorem laidOut:laidOutB Tryz.prog=true:=by kernel_rfl
theorem tie0:(tie Pf.E (.pair (.int .i64) (.pair (.slc (.pair (.int .i64) (.pair (.int .i64) (.unit)))) (.pair (.slc (.pair (.int .i64) (.pair (.int .i64) (.unit)))) (.pair (.int .i64) (.pair (.slc (.int .i64)) (.pair (.slc (.pair (.int .i64) (.pair (.int .i64) (.pair (.slc (.pair (.int .i64) (.pair (.int .i64) (.unit)))) (.pair (.slc (.pair (.int .i64) (.pair (.int .i64) (.unit)))) (.unit)))))) (.unit)))))))).1 65=true:=by kernel_rfl
theorem tie1:(tie Pf.E (.slc (.int .i64))).1 28=true:=by kernel_rfl
theorem tie2:(tie Pf.E (.slc (.int .i64))).1 28=true:=by kernel_rfl
theorem tie3:(tie Pf.E (.slc (.bool))).1 43=true:=by kernel_rfl
theorem tie4:(tie Pf.E (.pair (.int .i64) (.pair (.int .i64) (.pair (.int .i64) (.unit))))).1 91=true:=by kernel_rfl
theorem sg:Pf.E.sg 13=some Pf.s_laws_FnExactWeighShape:=by kernel_rfl
set_option maxRecDepth 100000 in
theorem lifted(os:Os)(started:os.Started)(H:Type)(enc:TypeId×Value→H):
    ReturnsInHanded {} Tryz.checked os 13 .any (Rows.fnExactWeighShapeSpec.pre6 enc Tryz.prog Tryz.f13 Rows.fnExactWeighShapeRow.domain false) (Rows.fnExactWeighShapeSpec.post enc Tryz.prog Tryz.f13 false true false false):=by
  refine returnsInHanded_of_change_sized (C:=Tryz.checked) own started (by kernel_rfl) Tryz.func13
    (ChangeSpec.witness6 (enc:=enc) (C:=Tryz.checked) false ⟨#[],#[.agg #[.int .i64 0,.slice none 0 0,.slice none 0 0,.int .i64 0,.slice none 0 0,.slice none 0 0],.slice none 0 0,.slice none 0 0,.slice none 0 0,.agg #[.int .i64 0,.int .i64 0,.int .i64 0]],[]⟩ 8 (by kernel_rfl) (by kernel_rfl) (by kernel_rfl) (by kernel_rfl)) ?_
  intro W base args ds gs before hval0 hW hcnd hsz0 _;have hval:∀(j:Nat) t v,Tryz.f13.params[j]?=some t→args[j]?=some v→Value.okWide Tryz.prog W .any base t v:=hval0
  have hW':=hW;obtain⟨p,q,hA0,hV,rfl,hfz,hnd⟩:=hW;have hA:DataW.TrodAll enc Tryz.prog W 0 (fun _=>true) true Tryz.f13.params.toList args.toList ds p:=hA0;rw[Tryz.params13]at hA hval;obtain⟨v0,vs0,d0,ds0,p0,q0,hargs,rfl,rfl,h0,r0⟩:=trodAll_cons hA;obtain⟨v1,vs1,d1,ds1,p1,q1,rfl,rfl,rfl,h1,r1⟩:=trodAll_cons r0;obtain⟨v2,vs2,d2,ds2,p2,q2,rfl,rfl,rfl,h2,r2⟩:=trodAll_cons r1;obtain⟨v3,vs3,d3,ds3,p3,q3,rfl,rfl,rfl,h3,r3⟩:=trodAll_cons r2;obtain⟨v4,vs4,d4,ds4,p4,q4,rfl,rfl,rfl,h4,r4⟩:=trodAll_cons r3;obtain⟨rfl,rfl,rfl⟩:=trodAll_nil r4;obtain rfl:args=#[v0,v1,v2,v3,v4]:=by cases args;simp_all
  obtain⟨rfl,rfl⟩:=trodVars_none hV;obtain⟨a0,hx0⟩:=arg_rep Pf.hE tie0 (hval 0 65 v0 rfl rfl) h0;have lt0:∀x∈p0,x.block<W.heap.size:=by obtain⟨m,hm⟩:=h0;exact DataW.trod_lt m _ _ _ hm
  have ft0:Fits (.pair (.int .i64) (.pair (.slc (.pair (.int .i64) (.pair (.int .i64) (.unit)))) (.pair (.slc (.pair (.int .i64) (.pair (.int .i64) (.unit)))) (.pair (.int .i64) (.pair (.slc (.int .i64)) (.pair (.slc (.pair (.int .i64) (.pair (.int .i64) (.pair (.slc (.pair (.int .i64) (.pair (.int .i64) (.unit)))) (.pair (.slc (.pair (.int .i64) (.pair (.int .i64) (.unit)))) (.unit)))))) (.unit))))))) a0:=by obtain⟨_,cs,_,hc⟩:=hx0;exact hc.fits
  obtain⟨a1,hx1⟩:=arg_rep Pf.hE tie1 (hval 1 28 v1 rfl rfl) h1;have lt1:∀x∈p1,x.block<W.heap.size:=by obtain⟨m,hm⟩:=h1;exact DataW.trod_lt m _ _ _ hm
  have ft1:Fits (.slc (.int .i64)) a1:=by obtain⟨_,cs,_,hc⟩:=hx1;exact hc.fits
  obtain⟨a2,hx2⟩:=arg_rep Pf.hE tie2 (hval 2 28 v2 rfl rfl) h2;have lt2:∀x∈p2,x.block<W.heap.size:=by obtain⟨m,hm⟩:=h2;exact DataW.trod_lt m _ _ _ hm
  have ft2:Fits (.slc (.int .i64)) a2:=by obtain⟨_,cs,_,hc⟩:=hx2;exact hc.fits
  obtain⟨a3,hx3⟩:=arg_rep Pf.hE tie3 (hval 3 43 v3 rfl rfl) h3;have lt3:∀x∈p3,x.block<W.heap.size:=by obtain⟨m,hm⟩:=h3;exact DataW.trod_lt m _ _ _ hm
  have ft3:Fits (.slc (.bool)) a3:=by obtain⟨_,cs,_,hc⟩:=hx3;exact hc.fits
  obtain⟨a4,hx4⟩:=arg_rep Pf.hE tie4 (hval 4 91 v4 rfl rfl) h4;have lt4:∀x∈p4,x.block<W.heap.size:=by obtain⟨m,hm⟩:=h4;exact DataW.trod_lt m _ _ _ hm
  have ft4:Fits (.pair (.int .i64) (.pair (.int .i64) (.pair (.int .i64) (.unit)))) a4:=by obtain⟨_,cs,_,hc⟩:=hx4;exact hc.fits
  clear hA0 hval0 hsz0;obtain⟨r,hr,hr1⟩:=pure a0 ft0 a1 ft1 a2 ft2 a3 ft3 a4 ft4;refine(law_calls (E:=Pf.E) mixed Pf.hE sg rfl (l:=(a0,(a1,(a2,(a3,(a4,())))))) hr hr1 ⟨v0,_,rfl,hx0,⟨v1,_,rfl,hx1,⟨v2,_,rfl,hx2,⟨v3,_,rfl,hx3,⟨v4,_,rfl,hx4,rfl⟩⟩⟩⟩⟩).mono fun e W'⟨he,bel⟩=>?_
  subst he;exact⟨_,rfl,_,_,_,[],_,[],hW',trodAll_mk1 (shut_bool Tryz.underlying4 _),(trodAll_cons_mk (Below.trod laidOut (by kernel_rfl) (of_decide_eq_true (by kernel_rfl)) h0 bel lt0) (trodAll_cons_mk (Below.trod laidOut (by kernel_rfl) (of_decide_eq_true (by kernel_rfl)) h1 bel lt1) (trodAll_cons_mk (Below.trod laidOut (by kernel_rfl) (of_decide_eq_true (by kernel_rfl)) h2 bel lt2) (trodAll_cons_mk (Below.trod laidOut (by kernel_rfl) (of_decide_eq_true (by kernel_rfl)) h3 bel lt3) (trodAll_cons_mk (Below.trod laidOut (by kernel_rfl) (of_decide_eq_true (by kernel_rfl)) h4 bel lt4) trodAll_mk0))))),rfl,bel.frame _,fun h=>by cases h⟩
theorem over:Rows.fnExactWeighShapeRow.holds Tryz.pinned (OpenSpec.ofChange Rows.fnExactWeighShapeSpec):=
  OpenClaim.holds_of_wide 13 Tryz.f13 rfl rfl rfl rfl rfl rfl rfl ⟨rfl,rfl,rfl,rfl,rfl⟩ rfl rfl rfl rfl rfl (by kernel_rfl) Tryz.func13 (facts (by kernel_rfl))
    (of_decide_eq_true (by kernel_rfl)) (by unfold Func.isWrapper;first|(rw[if_pos (by decide+kernel)];kernel_rfl)|(rw[if_neg (by decide+kernel)];exact⟨rfl,rfl⟩))
    (fun os started H enc _=>lifted os started H enc)
theorem proved:Rows.FnExactWeighShapeSaid:=over
#print axioms proved
end Go.Proofs.YtjgfofcgmcnblaaGreat.fnExactWeighShape
namespace Go.Proofs.YtjgfofcgmcnblaaGreat
theorem fnExactWeighShape_holds:Rows.FnExactWeighShapeSaid:=fnExactWeighShape.proved
end Go.Proofs.YtjgfofcgmcnblaaGreat
