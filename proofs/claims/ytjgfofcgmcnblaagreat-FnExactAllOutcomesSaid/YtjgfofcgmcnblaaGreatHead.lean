/- The closed facts on this seat's head words: the program is a cut, lifts no finals, may be entered: no condition. -/
import Derived.Test.YtjgfofcgmcnblaaGreatRows
import Derived.JoinedOf
import Derived.KernelRfl
namespace Go.Proofs.YtjgfofcgmcnblaaGreat
open Go
theorem words_blank(r:List Char):wordsSigns (Char.ofNat 32::r)=[]::wordsSigns r:=rfl
theorem words_other(c:Char)(r:List Char)(h:c≠Char.ofNat 32)(w:List Char)(ws:List (List Char))(e:wordsSigns r=w::ws):wordsSigns (c::r)=(c::w)::ws:=by
  rw[wordsSigns,e];exact h
theorem words_cons:∀(a r:List Char),(a.all fun c=>c !=Char.ofNat 32)=true→wordsSigns (a++Char.ofNat 32::r)=a::wordsSigns r
  |[],r,_=>words_blank r
  | c::a,r,h=>by
    simp only[List.all_cons,Bool.and_eq_true,bne_iff_ne,ne_eq]at h;exact words_other c _ h.1 a _ (words_cons a r h.2)
def sg(l:List Nat):List Char:=l.map Char.ofNat
def h0:List Char:=sg [104,97,114,110,101,115,115]
def h1:List Char:=sg [56,102,100,57,102,54,99,102,48,53,100,97,97,101,48,48,53,98,49,52,102,97,56,102,51,50,99,99,56,49,101,102,101,101,51,55,101,102,50,102,97,53,54,57,51,50,99,100,101,57,57,52,99,50,100,97,55,97,51,99,55,101,52,56]
def h2:List Char:=sg [99,117,116]
def h3:List Char:=sg [97,116,32,108,111,111,112,46,101,120,97,109,112,108,101,47,103,48,48,54,57,55,47,108,97,119,115,46,70,110,86,97,108,117,101,66,105,116,115,32,108,111,111,112,46,101,120,97,109,112,108,101,47,103,48,48,54,57,55,47,108,97,119,115,46,70,110,87,101,105,103,104,32,108,111,111,112,46,101,120,97,109,112,108,101,47,103,48,48,54,57,55,47,108,97,119,115,46,70,110,69,120,97,99,116,77,111,115,116,74,111,105,110,116,32,108,111,111,112,46,101,120,97,109,112,108,101,47,103,48,48,54,57,55,47,108,97,119,115,46,70,110,69,120,97,99,116,77,111,115,116,70,111,114,32,108,111,111,112,46,101,120,97,109,112,108,101,47,103,48,48,54,57,55,47,108,97,119,115,46,70,110,83,104,97,112,101,115,32,108,111,111,112,46,101,120,97,109,112,108,101,47,103,48,48,54,57,55,47,108,97,119,115,46,70,110,77,111,115,116,32,108,111,111,112,46,101,120,97,109,112,108,101,47,103,48,48,54,57,55,47,108,97,119,115,46,70,110,69,120,97,99,116,65,108,108,79,117,116,99,111,109,101,115,32,108,111,111,112,46,101,120,97,109,112,108,101,47,103,48,48,54,57,55,47,108,97,119,115,46,70,110,69,120,97,99,116,79,100,100,115,79,102,32,108,111,111,112,46,101,120,97,109,112,108,101,47,103,48,48,54,57,55,47,108,97,119,115,46,70,110,69,120,97,99,116,87,101,105,103,104,32,108,111,111,112,46,101,120,97,109,112,108,101,47,103,48,48,54,57,55,47,108,97,119,115,46,70,110,69,120,97,99,116,83,104,97,112,101,115,79,102,32,108,111,111,112,46,101,120,97,109,112,108,101,47,103,48,48,54,57,55,47,108,97,119,115,46,70,110,69,120,97,99,116,87,101,105,103,104,83,104,97,112,101,32,108,111,111,112,46,101,120,97,109,112,108,101,47,103,48,48,54,57,55,47,108,97,119,115,46,70,110,69,120,97,99,116,82,97,110,103,101,68,105,97,32,108,111,111,112,46,101,120,97,109,112,108,101,47,103,48,48,54,57,55,47,108,97,119,115,46,70,110,69,120,97,99,116,83,104,97,112,101,68,105,97,32,108,111,111,112,46,101,120,97,109,112,108,101,47,103,48,48,54,57,55,47,108,97,119,115,46,70,110,69,120,97,99,116,67,108,97,115,115,83,105,122,101,115,32,108,111,111,112,46,101,120,97,109,112,108,101,47,103,48,48,54,57,55,47,108,97,119,115,46,70,110,69,120,97,99,116,86,97,108,117,101,68,105,97,32,108,111,111,112,46,101,120,97,109,112,108,101,47,103,48,48,54,57,55,47,108,97,119,115,46,70,110,69,120,97,99,116,79,117,116,99,111,109,101,115,79,102,32,108,111,111,112,46,101,120,97,109,112,108,101,47,103,48,48,54,57,55,47,108,97,119,115,46,70,110,69,120,97,99,116,74,117,100,103,101]
theorem head_is:Tryz.prog.initOrder=String.ofList (h0++Char.ofNat 32::(h1++Char.ofNat 32::(h2++Char.ofNat 32::h3))):=by kernel_rfl
theorem h0b:(h0.all fun c=>c !=Char.ofNat 32)=true:=by kernel_rfl
theorem h1b:(h1.all fun c=>c !=Char.ofNat 32)=true:=by kernel_rfl
theorem h2b:(h2.all fun c=>c !=Char.ofNat 32)=true:=by kernel_rfl
theorem head_words:wordsSigns Tryz.prog.initOrder.toList=h0::h1::h2::wordsSigns h3:=
  ((congrArg (fun s:String=>wordsSigns s.toList) head_is).trans (congrArg wordsSigns String.toList_ofList)).trans
    ((words_cons h0 _ h0b).trans (congrArg (h0:: ·) ((words_cons h1 _ h1b).trans (congrArg (h1:: ·) (words_cons h2 _ h2b)))))
theorem behind_is(r:List (List Char)):behindMainWord (h0::h1::h2::r)=h2::r:=by kernel_rfl
theorem behind:behindMainWord (wordsSigns Tryz.prog.initOrder.toList)=h2::wordsSigns h3:=(congrArg behindMainWord head_words).trans (behind_is _)
def makeOf(P:Program)(l:List (List Char)):Option Make:=
  match l with
  |c::rest=>if c== "gc".toList||c== "spec".toList then some .whole else if c== "cut".toList||(c== "finals".toList&&rest.head?==some "cut".toList)then some .cut else if c== "carried".toList then some .carried else if P.headLifts.isEmpty then none else some (.lifted P.headLifts)
  |[]=>none
theorem makeOf_cut(P:Program)(r:List (List Char)):makeOf P (h2::r)=some .cut:=by kernel_rfl
theorem make_eq(P:Program)(r:List (List Char))(h:behindMainWord (wordsSigns P.initOrder.toList)=h2::r):P.make=some .cut:=by
  have e:P.make=makeOf P (behindMainWord (wordsSigns P.initOrder.toList)):=rfl;rw[e,h];exact makeOf_cut P _
theorem lifts_of(P:Program)(r:List (List Char))(h:behindMainWord (wordsSigns P.initOrder.toList)=h2::r):P.liftsFinal=false:=by
  unfold Program.liftsFinal Program.headLifts;rw[h];kernel_rfl
def enterOf(P:Program)(l:List (List Char)):Bool:=
  match l with
  | c ::rest=>
    ((c== "gc".toList||c== "spec".toList)&&(rest.isEmpty||rest.head?==some "stop".toList))||
    (c== "carried".toList&&rest.take 2==["gc".toList, "cut".toList]&&!P.laysLater&&!P.bearsReflect)||
    ((stripLifts liftWords (c::rest)).2.head?==some "cut".toList&&
      ((stripLifts liftWords (c::rest)).1.contains "finals" ||!P.laysLater)&&((stripLifts liftWords (c::rest)).1.contains "reflectrows" ||!P.bearsReflect)&&
      ((stripLifts liftWords (c::rest)).1.contains "reflectrows" ||!(stripLifts liftWords (c::rest)).1.contains "leanrows")&&
      P.doorFits (stripLifts liftWords (c::rest)).1)
  |[]=>false
theorem enterOf_cut(r:List (List Char)):enterOf Tryz.prog (h2::r)=true:=by kernel_rfl
theorem enter_of(P:Program):P.mayEnter=enterOf P (behindMainWord (wordsSigns P.initOrder.toList)):=rfl
theorem make_is:Tryz.prog.make=some .cut:=make_eq _ _ behind
theorem lifts_is:Tryz.prog.liftsFinal=false:=lifts_of _ _ behind
theorem enter_is:Tryz.prog.mayEnter=true:=(enter_of Tryz.prog).trans ((congrArg (enterOf Tryz.prog) behind).trans (enterOf_cut _))
/--What is asked of a row,the three words on the head aside. -/
def restFacts(P:Program)(f:FuncId)(fn:Func)(s:ChangeSpec)(c:OpenClaim):Bool:=
  c.wf (OpenSpec.ofChange s)&&laidOutB P&&mapsRowed P&&
  fn.params.all (P.readableRec ·)&&namedTie P c.named s.vars&&
  (c.stops==[])&&(P.stops==[])&&(c.knobs==[])&&(P.stopKnobs==[])&&
  (c.inPlace==P.inPlace f)&&(c.unfollowed==P.unfollowed f)&&(c.recurses==P.recurses f)&&(c.named==P.varsNamed f)&&
  (c.maps==(fn.params.toList++s.plain.varTypes P).any (P.mapsRec ·))&&(c.ifaces==(fn.params.toList++s.plain.varTypes P).any (P.ifacesRec ·))&&(c.mapsOut==P.mapsAmong fn.resultTypes.toList)&&
  (c.loops==(fn.params.toList++s.plain.varTypes P).any (P.loopsFrom ·))&&(c.wideKeys==(fn.params.toList++s.plain.varTypes P++fn.resultTypes.toList).any (P.wideKeysFrom ·))&&
  s.vars.all (P.varReadable ·)&&fn.resultTypes.all (fun t=>P.readableRec t&&decide (t<P.types.size))&&(c.ifacesOut==fn.resultTypes.toList.any (P.ifacesRec ·))&&(c.loopsOut==fn.resultTypes.toList.any (P.loopsFrom ·))&&(c.plainKeys==P.plainKeys)&&c.shortTexts.isNone&&P.stopsHeard&&true&&(c.lifted==false)&&(some Make.cut==some c.make)&&(c.kinds==(if c.domain.isEmpty then[]else fn.params.toList.map fun t=>match P.underlying t with|some (.int k)=>some k| _=>none))&&(c.pinned==c.pinnedBy)&&
  (c.veiled==(fn.params.toList++s.plain.varTypes P++fn.resultTypes.toList).any (P.veiledRec ·))&&c.veiledFits P fn.params.toList (fn.params.toList++s.plain.varTypes P++fn.resultTypes.toList)
theorem closed_of(P:Program)(f:FuncId)(fn:Func)(s:ChangeSpec)(c:OpenClaim)(k1:P.make=some .cut)(k2:P.liftsFinal=false)(k3:P.mayEnter=true)(h:restFacts P f fn s c=true):joinedFacts P f fn s c=true:=by
  unfold joinedFacts;rw[k1,k2,k3];exact h
theorem facts {f:FuncId}{fn:Func}{s:ChangeSpec}{c:OpenClaim}(h:restFacts Tryz.prog f fn s c=true):joinedFacts Tryz.prog f fn s c=true:=closed_of _ _ _ _ _ make_is lifts_is enter_is h
end Go.Proofs.YtjgfofcgmcnblaaGreat
