/- Part W13. -/
import Derived.Test.YtdapjaalaomghaaGreatDoorW12
open List renaming length→i
open Go renaming Value→d,Program→e
namespace Go.V
set_option linter.unusedVariables false
section
variable {P:e} {T:World}
def ZcD(x:Option d)(K:d->Prop):Prop:=match x with|some v=>K v|none=>False
def rvK(s:Option Bool)(n:Option Nat)(p:d)(h:Hp)(K:d->Prop):Prop:=match p with|.pointer (some a)=>ZcD (rvF s n a h) K|_=>False
def Hf(P:e):List ResultVar->Env->(d->Hp->Prop)->List d->Hp->Prop
 | [],_,Q,acc,h=>Q (NY acc.reverse) h
 | .tmp t :: l,F,Q,acc,h=>Hf P l F Q (F t :: acc) h
 | .cell a t :: l,F,Q,acc,h=>rvK (ta P t) (tn P t) (F a) h (fun v=>Hf P l F Q (v :: acc) h)
theorem hO{F:Env}{Q:d->Hp->Prop}{h:Hp}:∀(l:List ResultVar) (acc:List d),Hf P l F Q acc h->∃vs,QO P F h l=some vs/\Q (NY (acc.reverse++vs)) h:=by
 intro l
 induction l with
 | nil=>intro acc H;exact⟨[],rfl,by rw[List.append_nil];exact H⟩
 | cons x l ih=>
  intro acc H
  cases x with
  | tmp t=>
   obtain⟨vs,h1,h2⟩:=ih _ H;exact⟨F t :: vs,by simp only[QO,h1,Option.map_some],by simpa using h2⟩
  | cell a t=>
   simp only[Hf,rvK]at H
   cases hp:F a with
   | pointer p=>
    rw[hp]at H
    cases p with
    | none=>exact H.elim
    | some b=>
     simp only[ZcD]at H
     cases hv:rvF (ta P t) (tn P t) b h with
     | none=>rw[hv]at H;exact H.elim
     | some v=>
      rw[hv]at H;obtain⟨vs,h1,h2⟩:=ih _ H;refine⟨v :: vs,?_,by simpa using h2⟩;simp only[QO,h1,hp];rw[gW (by rw[hv];rfl),hv];rfl
   | _=>rw[hp]at H;exact H.elim
def Ds(P:e)(l:List ResultVar)(Q:d->Hp->Prop):Env->Hp->Prop:=fun F h=>Hf P l F Q [] h
theorem NF{l:List ResultVar}{Q:d->Hp->Prop}(F:Env)(h:Hp)(H:Ds P l Q F h):oB P l Q F h:=by
 obtain⟨vs,h1,h2⟩:=hO l [] H;show Gj P l F Q h;unfold Gj;rw[h1]
 simpa using h2
theorem Zd.wH{f:FuncId}{fn:Func}{c:Code}{l:List ResultVar}{args:List d}{h:Hp}{Q:d->Hp->Prop}(hf:P.funcs[f]? = some fn)(hb:fn.body=some c)(hl:fn.results=l.toArray)(hn:Nat.ble (i args) fn.ntmps=true)(Uj:codeOk fn.ntmps c=true)(H:vc P fn.ntmps T c (Ds P l Q) AP (Ds P l Q) (Hb args 0) h):Zd P T f args.toArray h Q:=by
 refine Zd.HF hf hb hl hn ?_;refine (Qw c _ _ _ _ _ Uj H).mono (fun F h q=>NF F h q) (fun _ _ _ q=>q) (fun F h q=>NF F h q)
theorem Zd.Ld{h:Hp}{f:FuncId}{fn:Func}{c:Code}{l:List ResultVar}(args:List d){Q:d->Hp->Prop}(hf:P.funcs[f]? = some fn)(H:vc P fn.ntmps T c (Ds P l Q) AP (Ds P l Q) (Hb args 0) h)(hb:fn.body=some c:=by rfl)(hl:fn.results=l.toArray:=by rfl)(hn:Nat.ble (i args) fn.ntmps=true:=by rfl)(Uj:codeOk fn.ntmps c=true:=by rfl):Zd P T f args.toArray h Q:=Zd.wH hf hb hl hn Uj H
def Zkv(P:e)(l:List ResultVar)(F:Env)(Q:d->Hp->Prop)(acc:List d)(h:Hp):d->Prop:=fun v=>Hf P l F Q (v :: acc) h
variable {l:List ResultVar} {Q:d->Hp->Prop} {F:Env} {acc:List d} {h:Hp} {t a:Nat} {v:d} {K:d->Prop}
@[go_sem] theorem Zi2:Ds P l Q F h=Hf P l F Q [] h:=rfl
@[go_sem] theorem Zkw:Hf P [] F Q acc h=Q (NY acc.reverse) h:=rfl
@[go_sem] theorem Zkx:Hf P (.tmp t :: l) F Q acc h=Hf P l F Q (F t :: acc) h:=rfl
@[go_sem] theorem Zi3:Hf P (.cell a t :: l) F Q acc h=rvK (ta P t) (tn P t) (F a) h (Zkv P l F Q acc h):=rfl
@[go_sem] theorem Zky:Zkv P l F Q acc h v=Hf P l F Q (v :: acc) h:=rfl
@[go_sem] theorem Zn1{s:Option Bool}{n:Option Nat}{b:Addr}:rvK s n (.pointer (some b)) h K=ZcD (rvF s n b h) K:=rfl
@[go_sem] theorem Zi4:ZcD (some v) K=K v:=rfl
attribute [go_sem] List.reverse_cons List.reverse_nil
end
end Go.V
