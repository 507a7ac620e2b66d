/- Part W16. -/
import Derived.Test.YtkhkmpfenaipaaaGreatDoorW15
import Derived.Test.YtkhkmpfenaipaaaGreatDoorV9
import Derived.Handed
import Derived.LaidMore
import Derived.Stop.Joined
import Derived.Lib.LaidTab
open List renaming length→a,append_nil→c,getD_eq_getElem?_getD→d
open Go renaming Value→m,TypeId→o
namespace Go.V
open Go.ChangeShapes Go.WideShapes Go.ChangeAt Go.RowKit
def lP(P:Program)(L:Hp->Prop)(f:FuncId)(ts:List o):Prop:=
 ∀(W:World) (args:List m),L W.heap->fitAll P W.heap ts args->Zg P W f (List.toArray args) W.heap fun v h'=>v=.bool true/\Zm W.heap.size W.heap h'
theorem lQ{H:Type}{enc:o × m->H}{P:Program}{f:FuncId}{fn:Func}{s:ChangeSpec}{tb:o}{L:Hp->Prop}(K:laidOutB P=true)(N:fn.params.toList.all (fun t=>(ta P t).isSome)=true)(G:fn.params.toList.all (fun t=>P.readableRec t&&decide (t<P.types.size))=true)(r:fn.resultTypes=#[tb])(n:P.underlying tb=some .bool)(w:s.vars=[])(y:∀b:List (DataW H),(a b)=(a fn.params.toList)->s.fn H b = { results:=[.lit (.bool true)],args:=b })(law:lP P L f fn.params.toList){W:World}{base:Nat}{args:Array m}{b D:List (DataW H)}{before:List MemPlace}(hL:L W.heap)(aC:∀(j:Nat) t v,fn.params[j]? = some t->args[j]? = some v->Value.okWide P W .any base t v)(A:DataW.Whole enc P fn.params.toList s.vars false W args.toList b D before)(g:(DataW.weightsEach P (fn.params.toList++s.plain.varTypes P) (b++D)).all (· <= reachBytes)=true):
  Calls P f args W fun e E=>∃v,e=.returned v/\s.post enc P fn false true false false W args v E:=by
 have u:=A;obtain⟨p,q,C,B,rfl,O,_⟩:=A;rw[w]at B;obtain⟨rfl,rfl⟩:=trodVars_none B;have l:s.plain.varTypes P=[]:=by
  have J:s.plain.vars=[]:=w;simp[DataSpec.varTypes,J]
 rw[l,c,c]at g;have M:fitAll P W.heap fn.params.toList args.toList:=by
  refine Bw (enc:=enc) (base:=base) _ _ b p N (fun j t v Q z=>aC j t v ?_ ?_) C g
  .grind
  .grind
 have k:=law W args.toList hL M W ⟨rfl,rfl,rfl,rfl⟩;rw[Array.toArray_toList]at k;refine k.mono fun e E ⟨v,h',I,F,z,hb⟩=>?_;subst z;have x:=Za3 F hb;have hlen:=Nb _ _ _ _ C;have i:=y b hlen;refine⟨_,I,b,[],_,[],p,[],u,?_,?_,?_,x.frame _,fun h=>by cases h⟩
 .rw[c,i,r];exact trodAll_mk1 (v:=.bool true) ⟨1,by simp[DataW.trod,Value.cells,n]⟩
 .grind [MR,Go.DataW.Whole.lt]
 .rw[c,i,w];rfl
theorem fm{C:Checked}{os:Os}{H:Type}{enc:o × m->H}{f:FuncId}{fn:Func}{s:ChangeSpec}{tb:o}{L:Hp->Prop}{laid:List (String × DataW Unit)}(Zn:ownKnob C.prog.godebug=none)(started:os.Started)(n:C.prog.inits.idxOf? f=none)(l:C.prog.funcs[f]? = some fn)(witness:∃(w:World) (tape:Tape) (i:Input),w.os=os/\(w.forCall tape i).Shaped C.prog/\i.vars=[]/\Input.okWide C.prog (w.forCall tape i) .any w.heap.size f i /\
    ((s.pre enc C.prog fn [] false (w.forCall tape i).memory i.args/\laidMetH C.prog laid (w.forCall tape i).memory)/\sizedMet enc C.prog fn (OpenSpec.ofChange s) false (w.forCall tape i).memory i.args)/\({}:Assume).holds C.prog (lone (Frame.enter C.prog f i.args .normal) [] (w.forCall tape i)))(p:laidOutB C.prog=true)(x:fn.params.toList.all (fun t=>(ta C.prog t).isSome)=true)(k:fn.params.toList.all (fun t=>C.prog.readableRec t&&decide (t<C.prog.types.size))=true)(j:fn.resultTypes=#[tb])(e:C.prog.underlying tb=some .bool)(v:s.vars=[])(q:∀b:List (DataW H),(a b)=(a fn.params.toList)->s.fn H b = { results:=[.lit (.bool true)],args:=b })(hL:∀W,laidMetH C.prog laid W->L W.heap)(law:lP C.prog L f fn.params.toList):
  ReturnsInHanded {} C os f .any (fun w args=>(s.pre enc C.prog fn [] false w args/\laidMetH C.prog laid w)/\sizedMet enc C.prog fn (OpenSpec.ofChange s) false w args) (s.post enc C.prog fn false true false false):=by
 refine returnsInHanded_of_change_and (X:=fun w _=>laidMetH C.prog laid w) (fun _ _ _ hh h=>h.of_heap hh) Zn started n l witness ?_;intro W base args b y before aC u _ g r _;exact lQ p x k j e v q law (hL W r) aC u g
def aD(g:Nat)(f:Nat->m)(l:List Nat)(h:Hp):Prop:=g<h.size/\∀i,i<(a l)->hc h ⟨g,i,none⟩=some (f (l.getD i 0))
theorem aD.YQ{g B:Nat}{f:Nat->m}{l:List Nat}{h h':Hp}(t:aD g f l h)(b:Zm B h h')(e:g<B):aD g f l h':=
 ⟨Nat.lt_of_lt_of_le t.1 b.size,fun i hi=>by rw[b.hc (by exact e)];exact t.2 i hi⟩
theorem aD.QL{g:Nat}{f:Nat->m}{l:List Nat}{h h':Hp}(t:aD g f l h)(b:Zm h.size h h'):aD g f l h':=t.YQ b t.1
theorem Zbg{P:Program}{W:World}{name:String}{k:IntKind}{l:List Nat}{g:Nat}(j:P.globalNamed name=some g)(h:Lib.TabIs P W name k (l.map fun n:Nat=>(n:Int)))(f:0<(a l)):
  aD g (fun n:Nat=>.int k n) l W.heap:=by
 have all:∀i,i<(a l)->hc W.heap ⟨g,i,none⟩=some (.int k (l.getD i 0:Nat)):=by
  intro i hi;have b:=h.cell j i zK;have e:(List.map (fun n:Nat=>(n:Int)) l).getD i 0=((l.getD i 0:Nat):Int):=by
   rw[d,d,List.getElem?_map,List.getElem?_eq_getElem hi];rfl
  rw[e]at b;exact b
 exact⟨O9 (all 0 f),all⟩
end Go.V
