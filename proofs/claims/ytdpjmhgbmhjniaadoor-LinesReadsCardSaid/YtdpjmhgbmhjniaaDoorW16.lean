/- Part W16. -/
import Derived.Test.YtdpjmhgbmhjniaaDoorW15
import Derived.Test.YtdpjmhgbmhjniaaDoorV9
import Derived.Handed
import Derived.LaidMore
import Derived.Stop.Joined
import Derived.Lib.LaidTab
namespace Go.V
open Go.ChangeShapes Go.WideShapes Go.ChangeAt Go.RowKit
def WA (P:Program) (L:Hp→Prop) (f:FuncId) (ts:List TypeId):Prop:=
 ∀(W:World) (args:List Value),L W.heap→fitAll P W.heap ts args→Zf P W f args.toArray W.heap fun v h'=>v=.bool true∧Zj W.heap.size W.heap h'
theorem Ug {H:Type} {enc:TypeId × Value→H} {P:Program} {f:FuncId} {fn:Func} {s:ChangeSpec} {tb:TypeId} {L:Hp→Prop} (Vx:laidOutB P=true)
  (IC:fn.params.toList.all (fun t=>(ta P t).isSome)=true) (ID:fn.params.toList.all (fun t=>P.readableRec t&&decide (t<P.types.size))=true)
  (IE:fn.resultTypes=#[tb]) (IF:P.underlying tb=some .bool) (Uh:s.vars=[])
  (Vy:∀ds:List (DataW H),ds.length=fn.params.toList.length→s.fn H ds = { results:=[.lit (.bool true)],args:=ds })
  (law:WA P L f fn.params.toList) {W:World} {base:Nat} {args:Array Value} {ds gs:List (DataW H)} {before:List MemPlace} (hL:L W.heap)
  (Ov:∀(j:Nat) t v,fn.params[j]? = some t→args[j]? = some v→Value.okWide P W .any base t v)
  (hW:DataW.Whole enc P fn.params.toList s.vars false W args.toList ds gs before)
  (U0:(DataW.weightsEach P (fn.params.toList++s.plain.varTypes P) (ds++gs)).all (· ≤ reachBytes)=true) :
  Calls P f args W fun e W'=>∃v,e=.returned v∧s.post enc P fn false true false false W args v W':=by
 have EK:=hW
 obtain⟨p,q,hA,hV,rfl,hz,_⟩:=hW
 rw[Uh]at hV
 obtain⟨rfl,rfl⟩:=trodVars_none hV
 have D8:s.plain.varTypes P=[]:=by
  have h1:s.plain.vars=[]:=Uh
  simp[DataSpec.varTypes,h1]
 rw[D8,List.append_nil,List.append_nil]at U0
 have YR:fitAll P W.heap fn.params.toList args.toList:=by
  refine U5 (enc:=enc) (base:=base) _ _ ds p IC (fun j t v ht hv=>Ov j t v ?_ ?_) hA U0
  ·rw[←Array.getElem?_toList];exact ht
  ·rw[←Array.getElem?_toList];exact hv
 have MX:=law W args.toList hL YR W ⟨rfl,rfl,rfl,rfl⟩
 rw[Array.toArray_toList]at MX
 refine MX.mono fun e W' ⟨v,h',he,hs,hv,hb⟩=>?_
 subst hv
 have RF:=Oo hs hb
 have hlen:=XT _ _ _ _ hA
 have PB:=Vy ds hlen
 refine⟨_,he,ds,[],_,[],p,[],EK,?_,?_,?_,RF.frame _,fun h=>by cases h⟩
 ·rw[List.append_nil,PB,IE]
  exact trodAll_mk1 (v:=.bool true) ⟨1,by simp[DataW.trod,Value.cells,IF]⟩
 ·rw[List.append_nil,PB]
  refine Jj Vx RF _ _ _ _ ID hA (fun x hx=>EK.lt x (by simpa using hx))
 ·rw[List.append_nil,PB,Uh]
  rfl
theorem MY {C:Checked} {os:Os} {H:Type} {enc:TypeId × Value→H} {f:FuncId} {fn:Func} {s:ChangeSpec} {tb:TypeId} {L:Hp→Prop} {laid:List (String × DataW Unit)}
  (ZJ:ownKnob C.prog.godebug=none) (started:os.Started) (T2:C.prog.inits.idxOf? f=none) (PB:C.prog.funcs[f]? = some fn)
  (witness:∃(w:World) (tape:Tape) (i:Input),w.os=os∧(w.forCall tape i).Shaped C.prog∧i.vars=[]∧Input.okWide C.prog (w.forCall tape i) .any w.heap.size f i ∧
    ((s.pre enc C.prog fn [] false (w.forCall tape i).memory i.args∧laidMetH C.prog laid (w.forCall tape i).memory)∧sizedMet enc C.prog fn (OpenSpec.ofChange s) false (w.forCall tape i).memory i.args)∧({}:Assume).holds C.prog (lone (Frame.enter C.prog f i.args .normal) [] (w.forCall tape i)))
  (Vx:laidOutB C.prog=true)
  (IC:fn.params.toList.all (fun t=>(ta C.prog t).isSome)=true) (ID:fn.params.toList.all (fun t=>C.prog.readableRec t&&decide (t<C.prog.types.size))=true)
  (IE:fn.resultTypes=#[tb]) (IF:C.prog.underlying tb=some .bool) (Uh:s.vars=[])
  (Vy:∀ds:List (DataW H),ds.length=fn.params.toList.length→s.fn H ds = { results:=[.lit (.bool true)],args:=ds })
  (hL:∀W,laidMetH C.prog laid W→L W.heap) (law:WA C.prog L f fn.params.toList) :
  ReturnsInHanded {} C os f .any (fun w args=>(s.pre enc C.prog fn [] false w args∧laidMetH C.prog laid w)∧sizedMet enc C.prog fn (OpenSpec.ofChange s) false w args) (s.post enc C.prog fn false true false false):=by
 refine returnsInHanded_of_change_and (X:=fun w _=>laidMetH C.prog laid w) (fun _ _ _ hh h=>h.of_heap hh) ZJ started T2 PB witness ?_
 intro W base args ds gs before Ov hW _ U0 hl _
 exact Ug Vx IC ID IE IF Uh Vy law (hL W hl) Ov hW U0
end Go.V
