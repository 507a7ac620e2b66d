/- Part W13. -/
import Derived.Test.YtkhkmpfenaipaaaGreatDoorW12
open List renaming toArray→e,length→j
open Go renaming Value→d,Program→i
namespace Go.V
set_option linter.unusedVariables false
section
variable {P:i} {T:World}
def Zf6(x:Option d)(K:d->Prop):Prop:=match x with|some v=>K v|none=>False
def rvK(s:Option Bool)(n:Option Nat)(p:d)(h:Hp)(K:d->Prop):Prop:=match p with|.pointer (some a)=>Zf6 (rvF s n a h) K|_=>False
def Fe(P:i):List ResultVar->Env->(d->Hp->Prop)->List d->Hp->Prop
 | [],_,Q,acc,h=>Q (Lf acc.reverse) h
 | .tmp t :: l,F,Q,acc,h=>Fe P l F Q (F t :: acc) h
 | .cell a t :: l,F,Q,acc,h=>rvK (ta P t) (tn P t) (F a) h (fun v=>Fe P l F Q (v :: acc) h)
theorem lK{F:Env}{Q:d->Hp->Prop}{h:Hp}:∀(l:List ResultVar) (acc:List d),Fe P l F Q acc h->∃vs,Um P F h l=some vs/\Q (Lf (acc.reverse++vs)) h:=by
 intro l
 induction l with
 | nil=>intro acc H;exact⟨[],rfl,by rw[List.append_nil];exact H⟩
 | cons x l c=>
  intro acc H
  cases x with
  | tmp t=>
   let⟨vs,k,g⟩:=c _ H
   grind [Um]
  | cell a t=>
   simp only[Fe,rvK]at H
   cases f:F a with
   | pointer p=>
    rw[f]at H
    cases p with
    | none=>exact H.elim
    | some b=>
     simp only[Zf6]at H
     grind [Um,lG,List.reverse_cons]
   | _=>grind
def BD(P:i)(l:List ResultVar)(Q:d->Hp->Prop):Env->Hp->Prop:=fun F h=>Fe P l F Q [] h
theorem MS{l:List ResultVar}{Q:d->Hp->Prop}(F:Env)(h:Hp)(H:BD P l Q F h):kq P l Q F h:=by
 let⟨vs,c,b⟩:=lK l [] H
 grind [kq,Cq]
theorem Zg.Zbb{f:FuncId}{fn:Func}{c:Code}{l:List ResultVar}{args:List d}{h:Hp}{Q:d->Hp->Prop}(k:P.funcs[f]? = some fn)(hb:fn.body=some c)(g:fn.results=(e l))(b:Nat.ble (j args) fn.ntmps=true)(m:codeOk fn.ntmps c=true)(H:vc P fn.ntmps T c (BD P l Q) dN (BD P l Q) (G6 args 0) h):Zg P T f (e args) h Q:=by
 refine Zg.Fr k hb g b ?_;refine (QX c _ _ _ _ _ m H).mono (fun F h q=>MS F h q) (fun _ _ _ q=>q) (fun F h q=>MS F h q)
theorem Zg.Kq{h:Hp}{f:FuncId}{fn:Func}{c:Code}{l:List ResultVar}(args:List d){Q:d->Hp->Prop}(k:P.funcs[f]? = some fn)(H:vc P fn.ntmps T c (BD P l Q) dN (BD P l Q) (G6 args 0) h)(hb:fn.body=some c:=by rfl)(g:fn.results=(e l):=by rfl)(b:Nat.ble (j args) fn.ntmps=true:=by rfl)(m:codeOk fn.ntmps c=true:=by rfl):Zg P T f (e args) h Q:=Zg.Zbb k hb g b m H
def Zol(P:i)(l:List ResultVar)(F:Env)(Q:d->Hp->Prop)(acc:List d)(h:Hp):d->Prop:=fun v=>Fe P l F Q (v :: acc) h
variable {l:List ResultVar} {Q:d->Hp->Prop} {F:Env} {acc:List d} {h:Hp} {t a:Nat} {v:d} {K:d->Prop}
@[go_sem] theorem ZmJ:BD P l Q F h=Fe P l F Q [] h:=rfl
@[go_sem] theorem Zom:Fe P [] F Q acc h=Q (Lf acc.reverse) h:=rfl
@[go_sem] theorem Zon:Fe P (.tmp t :: l) F Q acc h=Fe P l F Q (F t :: acc) h:=rfl
@[go_sem] theorem ZmK:Fe P (.cell a t :: l) F Q acc h=rvK (ta P t) (tn P t) (F a) h (Zol P l F Q acc h):=rfl
@[go_sem] theorem Zoo:Zol P l F Q acc h v=Fe P l F Q (v :: acc) h:=rfl
@[go_sem] theorem Zsb{s:Option Bool}{n:Option Nat}{b:Addr}:rvK s n (.pointer (some b)) h K=Zf6 (rvF s n b h) K:=rfl
@[go_sem] theorem ZmL:Zf6 (some v) K=K v:=rfl
attribute [go_sem] List.reverse_cons List.reverse_nil
end
end Go.V
