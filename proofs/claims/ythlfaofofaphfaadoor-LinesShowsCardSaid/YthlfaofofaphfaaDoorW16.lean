/- W16: a law's row whose program reads package-level tables; and a body-less callee, run in place. -/
import Derived.Test.YthlfaofofaphfaaDoorW15
import Derived.Test.YthlfaofofaphfaaDoorV9
import Derived.Handed
import Derived.LaidMore
import Derived.Stop.Joined
import Derived.Lib.LaidTab
namespace Go.V
open Go.ChangeShapes Go.WideShapes Go.ChangeAt Go.RowKit
def Va (P:Program) (L:Hp→Prop) (f:FuncId) (ts:List TypeId):Prop:=
 ∀(W:World) (args:List Value),L W.heap→fitAll P W.heap ts args→Ze P W f args.toArray W.heap fun v h'=>v=.bool true∧Zg W.heap.size W.heap h'
theorem Vb {H:Type} {enc:TypeId × Value→H} {P:Program} {f:FuncId} {fn:Func} {s:ChangeSpec} {tb:TypeId} {L:Hp→Prop} (SX:laidOutB P=true)
  (NB:fn.params.toList.all (fun t=>(ta P t).isSome)=true) (Li:fn.params.toList.all (fun t=>P.readableRec t&&decide (t<P.types.size))=true)
  (Lj:fn.resultTypes=#[tb]) (Lk:P.underlying tb=some .bool) (UW:s.vars=[])
  (SY:∀ds:List (DataW H),ds.length=fn.params.toList.length→s.fn H ds = { results:=[.lit (.bool true)],args:=ds })
  (law:Va P L f fn.params.toList) {W:World} {base:Nat} {args:Array Value} {ds gs:List (DataW H)} {before:List MemPlace} (hL:L W.heap)
  (P0:∀(j:Nat) t v,fn.params[j]? = some t→args[j]? = some v→Value.okWide P W .any base t v)
  (hW:DataW.Whole enc P fn.params.toList s.vars false W args.toList ds gs before)
  (Pc:(DataW.weightsEach P (fn.params.toList++s.plain.varTypes P) (ds++gs)).all (· ≤ reachBytes)=true) :
  Calls P f args W fun e W'=>∃v,e=.returned v∧s.post enc P fn false true false false W args v W':=by
 have KB:=hW
 obtain⟨p,q,hA,hV,rfl,hz,_⟩:=hW
 rw[UW]at hV
 obtain⟨rfl,rfl⟩:=trodVars_none hV
 have Iq:s.plain.varTypes P=[]:=by
  have h1:s.plain.vars=[]:=UW
  simp[DataSpec.varTypes,h1]
 rw[Iq,List.append_nil,List.append_nil]at Pc
 have Yk:fitAll P W.heap fn.params.toList args.toList:=by
  refine QK (enc:=enc) (base:=base) _ _ ds p NB (fun j t v ht hv=>P0 j t v ?_ ?_) hA Pc
  ·rw[←Array.getElem?_toList];exact ht
  ·rw[←Array.getElem?_toList];exact hv
 have Pq:=law W args.toList hL Yk W ⟨rfl,rfl,rfl,rfl⟩
 rw[Array.toArray_toList]at Pq
 refine Pq.mono fun e W' ⟨v,h',he,hs,hv,hb⟩=>?_
 subst hv
 have TC:=SQ hs hb
 have hlen:=Y1 _ _ _ _ hA
 have Ro:=SY ds hlen
 refine⟨_,he,ds,[],_,[],p,[],KB,?_,?_,?_,TC.frame _,fun h=>by cases h⟩
 ·rw[List.append_nil,Ro,Lj]
  exact trodAll_mk1 (v:=.bool true) ⟨1,by simp[DataW.trod,Value.cells,Lk]⟩
 ·rw[List.append_nil,Ro]
  refine Xh SX TC _ _ _ _ Li hA (fun x hx=>KB.lt x (by simpa using hx))
 ·rw[List.append_nil,Ro,UW]
  rfl
theorem UX {C:Checked} {os:Os} {H:Type} {enc:TypeId × Value→H} {f:FuncId} {fn:Func} {s:ChangeSpec} {tb:TypeId} {L:Hp→Prop} {laid:List (String × DataW Unit)}
  (own:ownKnob C.prog.godebug=none) (started:os.Started) (P1:C.prog.inits.idxOf? f=none) (Ro:C.prog.funcs[f]? = some fn)
  (witness:∃(w:World) (tape:Tape) (i:Input),w.os=os∧(w.forCall tape i).Shaped C.prog∧i.vars=[]∧Input.okWide C.prog (w.forCall tape i) .any w.heap.size f i ∧
    ((s.pre enc C.prog fn [] false (w.forCall tape i).memory i.args∧laidMetH C.prog laid (w.forCall tape i).memory)∧sizedMet enc C.prog fn (OpenSpec.ofChange s) false (w.forCall tape i).memory i.args)∧({}:Assume).holds C.prog (lone (Frame.enter C.prog f i.args .normal) [] (w.forCall tape i)))
  (SX:laidOutB C.prog=true)
  (NB:fn.params.toList.all (fun t=>(ta C.prog t).isSome)=true) (Li:fn.params.toList.all (fun t=>C.prog.readableRec t&&decide (t<C.prog.types.size))=true)
  (Lj:fn.resultTypes=#[tb]) (Lk:C.prog.underlying tb=some .bool) (UW:s.vars=[])
  (SY:∀ds:List (DataW H),ds.length=fn.params.toList.length→s.fn H ds = { results:=[.lit (.bool true)],args:=ds })
  (hL:∀W,laidMetH C.prog laid W→L W.heap) (law:Va C.prog L f fn.params.toList) :
  ReturnsInHanded {} C os f .any (fun w args=>(s.pre enc C.prog fn [] false w args∧laidMetH C.prog laid w)∧sizedMet enc C.prog fn (OpenSpec.ofChange s) false w args) (s.post enc C.prog fn false true false false):=by
 refine returnsInHanded_of_change_and (X:=fun w _=>laidMetH C.prog laid w) (fun _ _ _ hh h=>h.of_heap hh) own started P1 Ro witness ?_
 intro W base args ds gs before P0 hW _ Pc hl _
 exact Vb SX NB Li Lj Lk UW SY law (hL W hl) P0 hW Pc
end Go.V
