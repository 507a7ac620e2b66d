/- Part W16. -/
import Derived.Test.YtnhfdnlcpdbjlaaGreatDoorW15
import Derived.Test.YtnhfdnlcpdbjlaaGreatDoorV9
import Derived.Handed
import Derived.LaidMore
import Derived.Stop.Joined
import Derived.Lib.LaidTab
open List renaming append_nil→a,length→c,getD_eq_getElem?_getD→d
open Array renaming getElem?_toList→m
open Go renaming Value→o,TypeId→y
namespace Go.V
open Go.ChangeShapes Go.WideShapes Go.ChangeAt Go.RowKit
def gd(P:Program)(L:Hp->Prop)(f:FuncId)(ts:List y):Prop:=
 ∀(W:World) (args:List o),L W.heap->fitAll P W.heap ts args->Zg P W f args.toArray W.heap fun v h'=>v=.bool true/\Zk W.heap.size W.heap h'
theorem gf{H:Type}{enc:y × o->H}{P:Program}{f:FuncId}{fn:Func}{s:ChangeSpec}{tb:y}{L:Hp->Prop}(vE:laidOutB P=true)(nM:fn.params.toList.all (fun t=>(ta P t).isSome)=true)(vF:fn.params.toList.all (fun t=>P.readableRec t&&decide (t<P.types.size))=true)(hrt:fn.resultTypes=#[tb])(htb:P.underlying tb=some .bool)(Ay:s.vars=[])(vG:∀ds:List (DataW H),(c ds)=(c fn.params.toList)->s.fn H ds = { results:=[.lit (.bool true)],args:=ds })(law:gd P L f fn.params.toList){W:World}{base:Nat}{args:Array o}{ds gs:List (DataW H)}{before:List MemPlace}(hL:L W.heap)(IP:∀(j:Nat) t v,fn.params[j]? = some t->args[j]? = some v->Value.okWide P W .any base t v)(hW:DataW.Whole enc P fn.params.toList s.vars false W args.toList ds gs before)(hsz:(DataW.weightsEach P (fn.params.toList++s.plain.varTypes P) (ds++gs)).all (· <= reachBytes)=true):
  Calls P f args W fun e W'=>∃v,e=.returned v/\s.post enc P fn false true false false W args v W':=by
 have hW':=hW;obtain⟨p,q,hA,hV,rfl,hz,_⟩:=hW;rw[Ay]at hV;obtain⟨rfl,rfl⟩:=trodVars_none hV;have hvt:s.plain.varTypes P=[]:=by
  have h1:s.plain.vars=[]:=Ay;simp[DataSpec.varTypes,h1]
 rw[hvt,a,a]at hsz;have QG:fitAll P W.heap fn.params.toList args.toList:=by
  refine EK (enc:=enc) (base:=base) _ _ ds p nM (fun j t v ht hv=>IP j t v ?_ ?_) hA hsz
  .rw[<-m];exact ht
  .rw[<-m];exact hv
 have Zes:=law W args.toList hL QG W ⟨rfl,rfl,rfl,rfl⟩;rw[Array.toArray_toList]at Zes;refine Zes.mono fun e W' ⟨v,h',he,hs,hv,hb⟩=>?_;subst hv;have Cd:=vo hs hb;have hlen:=PB _ _ _ _ hA;have hfn:=vG ds hlen;refine⟨_,he,ds,[],_,[],p,[],hW',?_,?_,?_,Cd.frame _,fun h=>by cases h⟩
 .rw[a,hfn,hrt];exact trodAll_mk1 (v:=.bool true) ⟨1,by simp[DataW.trod,Value.cells,htb]⟩
 .rw[a,hfn];refine No vE Cd _ _ _ _ vF hA (fun x hx=>hW'.lt x (by simpa using hx))
 .rw[a,hfn,Ay];rfl
theorem Az{C:Checked}{os:Os}{H:Type}{enc:y × o->H}{f:FuncId}{fn:Func}{s:ChangeSpec}{tb:y}{L:Hp->Prop}{laid:List (String × DataW Unit)}(Zr:ownKnob C.prog.godebug=none)(started:os.Started)(ZfK:C.prog.inits.idxOf? f=none)(hfn:C.prog.funcs[f]? = some fn)(witness:∃(w:World) (tape:Tape) (i:Input),w.os=os/\(w.forCall tape i).Shaped C.prog/\i.vars=[]/\Input.okWide C.prog (w.forCall tape i) .any w.heap.size f i /\
    ((s.pre enc C.prog fn [] false (w.forCall tape i).memory i.args/\laidMetH C.prog laid (w.forCall tape i).memory)/\sizedMet enc C.prog fn (OpenSpec.ofChange s) false (w.forCall tape i).memory i.args)/\({}:Assume).holds C.prog (lone (Frame.enter C.prog f i.args .normal) [] (w.forCall tape i)))(vE:laidOutB C.prog=true)(nM:fn.params.toList.all (fun t=>(ta C.prog t).isSome)=true)(vF:fn.params.toList.all (fun t=>C.prog.readableRec t&&decide (t<C.prog.types.size))=true)(hrt:fn.resultTypes=#[tb])(htb:C.prog.underlying tb=some .bool)(Ay:s.vars=[])(vG:∀ds:List (DataW H),(c ds)=(c fn.params.toList)->s.fn H ds = { results:=[.lit (.bool true)],args:=ds })(hL:∀W,laidMetH C.prog laid W->L W.heap)(law:gd C.prog L f fn.params.toList):
  ReturnsInHanded {} C os f .any (fun w args=>(s.pre enc C.prog fn [] false w args/\laidMetH C.prog laid w)/\sizedMet enc C.prog fn (OpenSpec.ofChange s) false w args) (s.post enc C.prog fn false true false false):=by
 refine returnsInHanded_of_change_and (X:=fun w _=>laidMetH C.prog laid w) (fun _ _ _ hh h=>h.of_heap hh) Zr started ZfK hfn witness ?_;intro W base args ds gs before IP hW _ hsz hl _;exact gf vE nM vF hrt htb Ay vG law (hL W hl) IP hW hsz
def BE(g:Nat)(f:Nat->o)(l:List Nat)(h:Hp):Prop:=g<h.size/\∀i,i<(c l)->hc h ⟨g,i,none⟩=some (f (l.getD i 0))
theorem BE.YJ{g B:Nat}{f:Nat->o}{l:List Nat}{h h':Hp}(t:BE g f l h)(b:Zk B h h')(hg:g<B):BE g f l h':=
 ⟨Nat.lt_of_lt_of_le t.1 b.size,fun i hi=>by rw[b.hc (by exact hg)];exact t.2 i hi⟩
theorem BE.QH{g:Nat}{f:Nat->o}{l:List Nat}{h h':Hp}(t:BE g f l h)(b:Zk h.size h h'):BE g f l h':=t.YJ b t.1
theorem vH{P:Program}{W:World}{name:String}{k:IntKind}{l:List Nat}{g:Nat}(hg:P.globalNamed name=some g)(h:Lib.TabIs P W name k (l.map fun n:Nat=>(n:Int)))(hl:0<(c l)):
  BE g (fun n:Nat=>.int k n) l W.heap:=by
 have all:∀i,i<(c l)->hc W.heap ⟨g,i,none⟩=some (.int k (l.getD i 0:Nat)):=by
  intro i hi;have h1:=h.cell hg i (by simpa using hi);have e:(List.map (fun n:Nat=>(n:Int)) l).getD i 0=((l.getD i 0:Nat):Int):=by
   rw[d,d,List.getElem?_map,List.getElem?_eq_getElem hi];rfl
  rw[e]at h1;exact h1
 exact⟨WF (all 0 hl),all⟩
end Go.V
