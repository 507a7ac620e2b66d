/- Part W13. -/
import Derived.Test.YthlfaofofaphfaaGreatDoorW12
open List renaming length→i
open Go renaming Value→d,Program→e
namespace Go.V
set_option linter.unusedVariables false
section
variable {P:e} {T:World}
def Zb2(x:Option d)(K:d->Prop):Prop:=match x with|some v=>K v|none=>False
def rvK(s:Option Bool)(n:Option Nat)(p:d)(h:Hp)(K:d->Prop):Prop:=match p with|.pointer (some a)=>Zb2 (rvF s n a h) K|_=>False
def I2(P:e):List ResultVar->Env->(d->Hp->Prop)->List d->Hp->Prop
 | [],_,Q,acc,h=>Q (NB acc.reverse) h
 | .tmp t :: l,F,Q,acc,h=>I2 P l F Q (F t :: acc) h
 | .cell a t :: l,F,Q,acc,h=>rvK (ta P t) (tn P t) (F a) h (fun v=>I2 P l F Q (v :: acc) h)
theorem gh{F:Env}{Q:d->Hp->Prop}{h:Hp}:∀(l:List ResultVar) (acc:List d),I2 P l F Q acc h->∃vs,QO P F h l=some vs/\Q (NB (acc.reverse++vs)) h:=by
 intro l
 induction l with
 | nil=>intro acc H;exact⟨[],rfl,by rw[List.append_nil];exact H⟩
 | cons x l ih=>
  intro acc H
  cases x with
  | tmp t=>
   obtain⟨vs,h1,h2⟩:=ih _ H;exact⟨F t :: vs,by simp only[QO,h1,Option.map_some],by simpa using h2⟩
  | cell a t=>
   simp only[I2,rvK]at H
   cases hp:F a with
   | pointer p=>
    rw[hp]at H
    cases p with
    | none=>exact H.elim
    | some b=>
     simp only[Zb2]at H
     cases hv:rvF (ta P t) (tn P t) b h with
     | none=>rw[hv]at H;exact H.elim
     | some v=>
      rw[hv]at H;obtain⟨vs,h1,h2⟩:=ih _ H;refine⟨v :: vs,?_,by simpa using h2⟩;simp only[QO,h1,hp];rw[ga (by rw[hv];rfl),hv];rfl
   | _=>rw[hp]at H;exact H.elim
def E9(P:e)(l:List ResultVar)(Q:d->Hp->Prop):Env->Hp->Prop:=fun F h=>I2 P l F Q [] h
theorem Nk{l:List ResultVar}{Q:d->Hp->Prop}(F:Env)(h:Hp)(H:E9 P l Q F h):nC P l Q F h:=by
 obtain⟨vs,h1,h2⟩:=gh l [] H;show HX P l F Q h;unfold HX;rw[h1]
 simpa using h2
theorem Zd.vL{f:FuncId}{fn:Func}{c:Code}{l:List ResultVar}{args:List d}{h:Hp}{Q:d->Hp->Prop}(hf:P.funcs[f]? = some fn)(hb:fn.body=some c)(hl:fn.results=l.toArray)(hn:Nat.ble (i args) fn.ntmps=true)(Uk:codeOk fn.ntmps c=true)(H:vc P fn.ntmps T c (E9 P l Q) As (E9 P l Q) (IY args 0) h):Zd P T f args.toArray h Q:=by
 refine Zd.Hm hf hb hl hn ?_;refine (Qw c _ _ _ _ _ Uk H).mono (fun F h q=>Nk F h q) (fun _ _ _ q=>q) (fun F h q=>Nk F h q)
theorem Zd.MQ{h:Hp}{f:FuncId}{fn:Func}{c:Code}{l:List ResultVar}(args:List d){Q:d->Hp->Prop}(hf:P.funcs[f]? = some fn)(H:vc P fn.ntmps T c (E9 P l Q) As (E9 P l Q) (IY args 0) h)(hb:fn.body=some c:=by rfl)(hl:fn.results=l.toArray:=by rfl)(hn:Nat.ble (i args) fn.ntmps=true:=by rfl)(Uk:codeOk fn.ntmps c=true:=by rfl):Zd P T f args.toArray h Q:=Zd.vL hf hb hl hn Uk H
def ZjG(P:e)(l:List ResultVar)(F:Env)(Q:d->Hp->Prop)(acc:List d)(h:Hp):d->Prop:=fun v=>I2 P l F Q (v :: acc) h
variable {l:List ResultVar} {Q:d->Hp->Prop} {F:Env} {acc:List d} {h:Hp} {t a:Nat} {v:d} {K:d->Prop}
@[go_sem] theorem Zig:E9 P l Q F h=I2 P l F Q [] h:=rfl
@[go_sem] theorem ZjH:I2 P [] F Q acc h=Q (NB acc.reverse) h:=rfl
@[go_sem] theorem ZjI:I2 P (.tmp t :: l) F Q acc h=I2 P l F Q (F t :: acc) h:=rfl
@[go_sem] theorem Zih:I2 P (.cell a t :: l) F Q acc h=rvK (ta P t) (tn P t) (F a) h (ZjG P l F Q acc h):=rfl
@[go_sem] theorem ZjJ:ZjG P l F Q acc h v=I2 P l F Q (v :: acc) h:=rfl
@[go_sem] theorem Znb{s:Option Bool}{n:Option Nat}{b:Addr}:rvK s n (.pointer (some b)) h K=Zb2 (rvF s n b h) K:=rfl
@[go_sem] theorem Zii:Zb2 (some v) K=K v:=rfl
attribute [go_sem] List.reverse_cons List.reverse_nil
end
end Go.V
