/- Part W13. -/
import Derived.Test.YtdpjmhgbmhjniaaGreatDoorW12
open List renaming length→i
open Go renaming Value→d,Program→e
namespace Go.V
set_option linter.unusedVariables false
section
variable {P:e} {T:World}
def xf(x:Option d)(K:d->Prop):Prop:=match x with|some v=>K v|none=>False
def rvK(s:Option Bool)(n:Option Nat)(p:d)(h:Hp)(K:d->Prop):Prop:=match p with|.pointer (some a)=>xf (rvF s n a h) K|_=>False
def LP(P:e):List ResultVar->Env->(d->Hp->Prop)->List d->Hp->Prop
 | [],_,Q,acc,h=>Q (PN acc.reverse) h
 | .tmp t :: l,F,Q,acc,h=>LP P l F Q (F t :: acc) h
 | .cell a t :: l,F,Q,acc,h=>rvK (ta P t) (tn P t) (F a) h (fun v=>LP P l F Q (v :: acc) h)
theorem aH{F:Env}{Q:d->Hp->Prop}{h:Hp}:∀(l:List ResultVar) (acc:List d),LP P l F Q acc h->∃vs,JQ P F h l=some vs/\Q (PN (acc.reverse++vs)) h:=by
 intro l
 induction l with
 | nil=>intro acc H;exact⟨[],rfl,by rw[List.append_nil];exact H⟩
 | cons x l ih=>
  intro acc H
  cases x with
  | tmp t=>
   obtain⟨vs,h1,h2⟩:=ih _ H;exact⟨F t :: vs,by simp only[JQ,h1,Option.map_some],by simpa using h2⟩
  | cell a t=>
   simp only[LP,rvK]at H
   cases hp:F a with
   | pointer p=>
    rw[hp]at H
    cases p with
    | none=>exact H.elim
    | some b=>
     simp only[xf]at H
     cases hv:rvF (ta P t) (tn P t) b h with
     | none=>rw[hv]at H;exact H.elim
     | some v=>
      rw[hv]at H;obtain⟨vs,h1,h2⟩:=ih _ H;refine⟨v :: vs,?_,by simpa using h2⟩;simp only[JQ,h1,hp];rw[aF (by rw[hv];rfl),hv];rfl
   | _=>rw[hp]at H;exact H.elim
def GN(P:e)(l:List ResultVar)(Q:d->Hp->Prop):Env->Hp->Prop:=fun F h=>LP P l F Q [] h
theorem VA{l:List ResultVar}{Q:d->Hp->Prop}(F:Env)(h:Hp)(H:GN P l Q F h):ik P l Q F h:=by
 obtain⟨vs,h1,h2⟩:=aH l [] H;show Ws P l F Q h;unfold Ws;rw[h1]
 simpa using h2
theorem Zc.oY{f:FuncId}{fn:Func}{c:Code}{l:List ResultVar}{args:List d}{h:Hp}{Q:d->Hp->Prop}(hf:P.funcs[f]? = some fn)(hb:fn.body=some c)(hl:fn.results=l.toArray)(hn:Nat.ble (i args) fn.ntmps=true)(XM:codeOk fn.ntmps c=true)(H:vc P fn.ntmps T c (GN P l Q) DB (GN P l Q) (Ot args 0) h):Zc P T f args.toArray h Q:=by
 refine Zc.Kb hf hb hl hn ?_;refine (JC c _ _ _ _ _ XM H).mono (fun F h q=>VA F h q) (fun _ _ _ q=>q) (fun F h q=>VA F h q)
theorem Zc.PX{h:Hp}{f:FuncId}{fn:Func}{c:Code}{l:List ResultVar}(args:List d){Q:d->Hp->Prop}(hf:P.funcs[f]? = some fn)(H:vc P fn.ntmps T c (GN P l Q) DB (GN P l Q) (Ot args 0) h)(hb:fn.body=some c:=by rfl)(hl:fn.results=l.toArray:=by rfl)(hn:Nat.ble (i args) fn.ntmps=true:=by rfl)(XM:codeOk fn.ntmps c=true:=by rfl):Zc P T f args.toArray h Q:=Zc.oY hf hb hl hn XM H
def Zgf(P:e)(l:List ResultVar)(F:Env)(Q:d->Hp->Prop)(acc:List d)(h:Hp):d->Prop:=fun v=>LP P l F Q (v :: acc) h
variable {l:List ResultVar} {Q:d->Hp->Prop} {F:Env} {acc:List d} {h:Hp} {t a:Nat} {v:d} {K:d->Prop}
@[go_sem] theorem ZeP:GN P l Q F h=LP P l F Q [] h:=rfl
@[go_sem] theorem Zgg:LP P [] F Q acc h=Q (PN acc.reverse) h:=rfl
@[go_sem] theorem Zgh:LP P (.tmp t :: l) F Q acc h=LP P l F Q (F t :: acc) h:=rfl
@[go_sem] theorem ZeQ:LP P (.cell a t :: l) F Q acc h=rvK (ta P t) (tn P t) (F a) h (Zgf P l F Q acc h):=rfl
@[go_sem] theorem Zgi:Zgf P l F Q acc h v=LP P l F Q (v :: acc) h:=rfl
@[go_sem] theorem Zj6{s:Option Bool}{n:Option Nat}{b:Addr}:rvK s n (.pointer (some b)) h K=xf (rvF s n b h) K:=rfl
@[go_sem] theorem ZeR:xf (some v) K=K v:=rfl
attribute [go_sem] List.reverse_cons List.reverse_nil
end
end Go.V
