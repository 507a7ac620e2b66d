/- W16: a law's row whose program reads package-level tables; and a body-less callee, run in place. -/
import Derived.Test.YtboeoomhjbcecaaGreatDoorW15
import Derived.Test.YtboeoomhjbcecaaGreatDoorV9
import Derived.Handed
import Derived.LaidMore
import Derived.Stop.Joined
import Derived.Lib.LaidTab
namespace Go.V
open Go.ChangeShapes Go.WideShapes Go.ChangeAt Go.RowKit
def AH (P:Program) (L:Hp→Prop) (f:FuncId) (ts:List TypeId):Prop:=
 ∀(W:World) (args:List Value),L W.heap→fitAll P W.heap ts args→Zc P W f args.toArray W.heap fun v h'=>v=.bool true∧Zf W.heap.size W.heap h'
theorem AI {H:Type} {enc:TypeId × Value→H} {P:Program} {f:FuncId} {fn:Func} {s:ChangeSpec} {tb:TypeId} {L:Hp→Prop} (nC:laidOutB P=true)
  (tD:fn.params.toList.all (fun t=>(ta P t).isSome)=true) (nE:fn.params.toList.all (fun t=>P.readableRec t&&decide (t<P.types.size))=true)
  (hrt:fn.resultTypes=#[tb]) (htb:P.underlying tb=some .bool) (De:s.vars=[])
  (nF:∀ds:List (DataW H),ds.length=fn.params.toList.length→s.fn H ds = { results:=[.lit (.bool true)],args:=ds })
  (law:AH P L f fn.params.toList) {W:World} {base:Nat} {args:Array Value} {ds gs:List (DataW H)} {before:List MemPlace} (hL:L W.heap)
  (La:∀(j:Nat) t v,fn.params[j]? = some t→args[j]? = some v→Value.okWide P W .any base t v)
  (hW:DataW.Whole enc P fn.params.toList s.vars false W args.toList ds gs before)
  (yV:(DataW.weightsEach P (fn.params.toList++s.plain.varTypes P) (ds++gs)).all (· ≤ reachBytes)=true) :
  Calls P f args W fun e W'=>∃v,e=.returned v∧s.post enc P fn false true false false W args v W':=by
 have hW':=hW;obtain⟨p,q,hA,hV,rfl,hz,_⟩:=hW;rw[De]at hV;obtain⟨rfl,rfl⟩:=trodVars_none hV;have hvt:s.plain.varTypes P=[]:=by
  have h1:s.plain.vars=[]:=De;simp[DataSpec.varTypes,h1]
 rw[hvt,List.append_nil,List.append_nil]at yV;have J4:fitAll P W.heap fn.params.toList args.toList:=by
  refine HP (enc:=enc) (base:=base) _ _ ds p tD (fun j t v ht hv=>La j t v ?_ ?_) hA yV
  ·rw[←Array.getElem?_toList];exact ht
  ·rw[←Array.getElem?_toList];exact hv
 have zh:=law W args.toList hL J4 W ⟨rfl,rfl,rfl,rfl⟩;rw[Array.toArray_toList]at zh;refine zh.mono fun e W' ⟨v,h',he,hs,hv,hb⟩=>?_;subst hv;have Fh:=np hs hb;have hlen:=Sd _ _ _ _ hA;have ue:=nF ds hlen;refine⟨_,he,ds,[],_,[],p,[],hW',?_,?_,?_,Fh.frame _,fun h=>by cases h⟩
 ·rw[List.append_nil,ue,hrt];exact trodAll_mk1 (v:=.bool true) ⟨1,by simp[DataW.trod,Value.cells,htb]⟩
 ·rw[List.append_nil,ue];refine Rz nC Fh _ _ _ _ nE hA (fun x hx=>hW'.lt x (by simpa using hx))
 ·rw[List.append_nil,ue,De];rfl
theorem Df {C:Checked} {os:Os} {H:Type} {enc:TypeId × Value→H} {f:FuncId} {fn:Func} {s:ChangeSpec} {tb:TypeId} {L:Hp→Prop} {laid:List (String × DataW Unit)}
  (own:ownKnob C.prog.godebug=none) (started:os.Started) (Za4:C.prog.inits.idxOf? f=none) (ue:C.prog.funcs[f]? = some fn)
  (witness:∃(w:World) (tape:Tape) (i:Input),w.os=os∧(w.forCall tape i).Shaped C.prog∧i.vars=[]∧Input.okWide C.prog (w.forCall tape i) .any w.heap.size f i ∧
    ((s.pre enc C.prog fn [] false (w.forCall tape i).memory i.args∧laidMetH C.prog laid (w.forCall tape i).memory)∧sizedMet enc C.prog fn (OpenSpec.ofChange s) false (w.forCall tape i).memory i.args)∧({}:Assume).holds C.prog (lone (Frame.enter C.prog f i.args .normal) [] (w.forCall tape i)))
  (nC:laidOutB C.prog=true)
  (tD:fn.params.toList.all (fun t=>(ta C.prog t).isSome)=true) (nE:fn.params.toList.all (fun t=>C.prog.readableRec t&&decide (t<C.prog.types.size))=true)
  (hrt:fn.resultTypes=#[tb]) (htb:C.prog.underlying tb=some .bool) (De:s.vars=[])
  (nF:∀ds:List (DataW H),ds.length=fn.params.toList.length→s.fn H ds = { results:=[.lit (.bool true)],args:=ds })
  (hL:∀W,laidMetH C.prog laid W→L W.heap) (law:AH C.prog L f fn.params.toList) :
  ReturnsInHanded {} C os f .any (fun w args=>(s.pre enc C.prog fn [] false w args∧laidMetH C.prog laid w)∧sizedMet enc C.prog fn (OpenSpec.ofChange s) false w args) (s.post enc C.prog fn false true false false):=by
 refine returnsInHanded_of_change_and (X:=fun w _=>laidMetH C.prog laid w) (fun _ _ _ hh h=>h.of_heap hh) own started Za4 ue witness ?_;intro W base args ds gs before La hW _ yV hl _;exact AI nC tD nE hrt htb De nF law (hL W hl) La hW yV
def Dh (g:Nat) (f:Nat→Value) (l:List Nat) (h:Hp):Prop:=g<h.size∧∀i,i<l.length→hc h ⟨g,i,none⟩=some (f (l.getD i 0))
theorem Dh.Z2 {g B:Nat} {f:Nat→Value} {l:List Nat} {h h':Hp} (t:Dh g f l h) (b:Zf B h h') (hg:g<B):Dh g f l h':=
 ⟨Nat.lt_of_lt_of_le t.1 b.size,fun i hi=>by rw[b.hc (by exact hg)];exact t.2 i hi⟩
theorem Dh.Je {g:Nat} {f:Nat→Value} {l:List Nat} {h h':Hp} (t:Dh g f l h) (b:Zf h.size h h'):Dh g f l h':=t.Z2 b t.1
theorem nG {P:Program} {W:World} {name:String} {k:IntKind} {l:List Nat} {g:Nat} (hg:P.globalNamed name=some g) (h:Lib.TabIs P W name k (l.map fun n:Nat=>(n:Int))) (hl:0<l.length) :
  Dh g (fun n:Nat=>.int k n) l W.heap:=by
 have all:∀i,i<l.length→hc W.heap ⟨g,i,none⟩=some (.int k (l.getD i 0:Nat)):=by
  intro i hi;have h1:=h.cell hg i (by simpa using hi);have e:(List.map (fun n:Nat=>(n:Int)) l).getD i 0=((l.getD i 0:Nat):Int):=by
   rw[List.getD_eq_getElem?_getD,List.getD_eq_getElem?_getD,List.getElem?_map,List.getElem?_eq_getElem hi];rfl
  rw[e]at h1;exact h1
 exact⟨Uq (all 0 hl),all⟩
end Go.V
