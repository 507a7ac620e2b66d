/- Part W21. -/
import Derived.Test.YtdpjmhgbmhjniaaDoorW19
namespace Go.V
set_option linter.unusedVariables false
set_option linter.unusedSimpArgs false
section
variable {P:Program} {T:World} {K:Value→Hp→Prop} {F:Env} {h:Hp} {ty:TypeId}
end
section
variable {h h':Hp}
theorem RI {b:Nat} {E:TypeId} {n m c:Nat} {pre cs post:List Value} (hg:h[b]? = some (.cells (pre++(cs++post)).toArray E)) (hl:cs.length=m*n) {o:Nat} (ho:o=pre.length):Sl n h (.slice (some ⟨b,o,none⟩) m c) m cs:=by
 refine⟨_,c,rfl,hl,fun _=>⟨b,o,rfl,fun i hi=>?_⟩⟩
 subst ho
 rw[Yy hg]
 simp only[List.getElem?_toArray]
 rw[List.getElem?_append_right (by omega),Nat.add_sub_cancel_left,List.getElem?_append_left hi,List.getElem?_eq_getElem hi]
theorem ZO {b:Nat} {o o':Obj} (hb:h[b]? = some o'):(h.setIfInBounds b o)[b]? = some o:=by
 rw[Array.getElem?_setIfInBounds,if_pos rfl,if_pos (Zb hb)]
theorem Zd {b b':Nat} {o:Obj} (hb:b≠b'):(h.setIfInBounds b o)[b']? = h[b']?:=by
 rw[Array.getElem?_setIfInBounds,if_neg hb]
variable {P:Program} {T:World} {K:Value→Hp→Prop} {ty:TypeId}
theorem WB {f:FuncId} {fn:Func} {e:Array Value→Sem Value} (hf:P.funcs[f]? = some fn) (IG:(fn.name == "runtime.NumGoroutine")=false) (hb:fn.body.isNone=true) (hn:Extern.findNext fn=none) (he:Extern.find fn=some e)
  {l:List Value} (H:hw P (e l.toArray) K h):Qt P T (.func (.func f) #[] #[]) l K h:=by
 have h1:fn.name ≠ "runtime.NumGoroutine" := by simpa using IG
 have h2:fn.body=none:=by simpa using hb
 have hg:¬goes P f=true:=by unfold goes;rw[hf];simp[h2]
 show if goes P f=true then Zf P T f (([]:List Value)++l++[]).toArray h K else hw P (callFunc f (([]:List Value)++l++[]).toArray) (Z9 P T K) h
 rw[if_neg hg,List.nil_append,List.append_nil]
 unfold callFunc
 rw[Za]
 simp only[program,hw,hf]
 rw[if_neg (by simpa using h1),if_pos (by rw[h2];rfl),Za]
 simp only[mark,hw,hn,he]
 rw[Za]
 exact H
end
theorem T3 {P:Program} {L:List Char} {x:Bool × List Char} (h:P.initOrder=String.ofList L) (h2:(match wordsSigns L with|h :: s :: _=>if !isSumSigns s then none else if h == "harness".toList then some (true,s) else if h == "ownmain".toList then some (false,s) else none|_=>none)=some x):P.mainIs=some x:=by
 unfold Program.mainIs
 rw[h,String.toList_ofList];exact h2
end Go.V
