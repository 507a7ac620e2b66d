/- Part W13. -/
import Derived.Test.YthlfaofofaphfaaGreatDoorW12
open List renaming length→i
open Go renaming Value→d,Program→e
namespace Go.V
set_option linter.unusedVariables false
section
variable {P:e} {T:World}
def Zc6(x:Option d)(K:d->Prop):Prop:=match x with|some v=>K v|none=>False
def rvK(s:Option Bool)(n:Option Nat)(p:d)(h:Hp)(K:d->Prop):Prop:=match p with|.pointer (some a)=>Zc6 (rvF s n a h) K|_=>False
def HI(P:e):List ResultVar->Env->(d->Hp->Prop)->List d->Hp->Prop
 | [],_,Q,acc,h=>Q (Mj acc.reverse) h
 | .tmp t :: l,F,Q,acc,h=>HI P l F Q (F t :: acc) h
 | .cell a t :: l,F,Q,acc,h=>rvK (ta P t) (tn P t) (F a) h (fun v=>HI P l F Q (v :: acc) h)
theorem iG{F:Env}{Q:d->Hp->Prop}{h:Hp}:∀(l:List ResultVar) (acc:List d),HI P l F Q acc h->∃vs,QW P F h l=some vs/\Q (Mj (acc.reverse++vs)) h:=by
 intro l
 induction l with
 | nil=>intro acc H;exact⟨[],rfl,by rw[List.append_nil];exact H⟩
 | cons x l ih=>
  intro acc H
  cases x with
  | tmp t=>
   obtain⟨vs,h1,h2⟩:=ih _ H;exact⟨F t :: vs,by simp only[QW,h1,Option.map_some],by simpa using h2⟩
  | cell a t=>
   simp only[HI,rvK]at H
   cases hp:F a with
   | pointer p=>
    rw[hp]at H
    cases p with
    | none=>exact H.elim
    | some b=>
     simp only[Zc6]at H
     cases hv:rvF (ta P t) (tn P t) b h with
     | none=>rw[hv]at H;exact H.elim
     | some v=>
      rw[hv]at H;obtain⟨vs,h1,h2⟩:=ih _ H;refine⟨v :: vs,?_,by simpa using h2⟩;simp only[QW,h1,hp];rw[iC (by rw[hv];rfl),hv];rfl
   | _=>rw[hp]at H;exact H.elim
def DN(P:e)(l:List ResultVar)(Q:d->Hp->Prop):Env->Hp->Prop:=fun F h=>HI P l F Q [] h
theorem NX{l:List ResultVar}{Q:d->Hp->Prop}(F:Env)(h:Hp)(H:DN P l Q F h):pL P l Q F h:=by
 obtain⟨vs,h1,h2⟩:=iG l [] H;show Gz P l F Q h;unfold Gz;rw[h1]
 simpa using h2
theorem Zd.yd{f:FuncId}{fn:Func}{c:Code}{l:List ResultVar}{args:List d}{h:Hp}{Q:d->Hp->Prop}(hf:P.funcs[f]? = some fn)(hb:fn.body=some c)(hl:fn.results=l.toArray)(hn:Nat.ble (i args) fn.ntmps=true)(Um:codeOk fn.ntmps c=true)(H:vc P fn.ntmps T c (DN P l Q) aj (DN P l Q) (HE args 0) h):Zd P T f args.toArray h Q:=by
 refine Zd.H7 hf hb hl hn ?_;refine (QG c _ _ _ _ _ Um H).mono (fun F h q=>NX F h q) (fun _ _ _ q=>q) (fun F h q=>NX F h q)
theorem Zd.Lt{h:Hp}{f:FuncId}{fn:Func}{c:Code}{l:List ResultVar}(args:List d){Q:d->Hp->Prop}(hf:P.funcs[f]? = some fn)(H:vc P fn.ntmps T c (DN P l Q) aj (DN P l Q) (HE args 0) h)(hb:fn.body=some c:=by rfl)(hl:fn.results=l.toArray:=by rfl)(hn:Nat.ble (i args) fn.ntmps=true:=by rfl)(Um:codeOk fn.ntmps c=true:=by rfl):Zd P T f args.toArray h Q:=Zd.yd hf hb hl hn Um H
def ZkR(P:e)(l:List ResultVar)(F:Env)(Q:d->Hp->Prop)(acc:List d)(h:Hp):d->Prop:=fun v=>HI P l F Q (v :: acc) h
variable {l:List ResultVar} {Q:d->Hp->Prop} {F:Env} {acc:List d} {h:Hp} {t a:Nat} {v:d} {K:d->Prop}
@[go_sem] theorem Zjs:DN P l Q F h=HI P l F Q [] h:=rfl
@[go_sem] theorem ZkS:HI P [] F Q acc h=Q (Mj acc.reverse) h:=rfl
@[go_sem] theorem ZkT:HI P (.tmp t :: l) F Q acc h=HI P l F Q (F t :: acc) h:=rfl
@[go_sem] theorem Zjt:HI P (.cell a t :: l) F Q acc h=rvK (ta P t) (tn P t) (F a) h (ZkR P l F Q acc h):=rfl
@[go_sem] theorem ZkU:ZkR P l F Q acc h v=HI P l F Q (v :: acc) h:=rfl
@[go_sem] theorem Zor{s:Option Bool}{n:Option Nat}{b:Addr}:rvK s n (.pointer (some b)) h K=Zc6 (rvF s n b h) K:=rfl
@[go_sem] theorem Zju:Zc6 (some v) K=K v:=rfl
attribute [go_sem] List.reverse_cons List.reverse_nil
end
end Go.V
