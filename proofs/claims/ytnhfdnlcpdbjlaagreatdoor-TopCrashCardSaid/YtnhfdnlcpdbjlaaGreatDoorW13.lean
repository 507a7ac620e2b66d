/- Part W13. -/
import Derived.Test.YtnhfdnlcpdbjlaaGreatDoorW12
open List renaming length→i
open Go renaming Value→d,Program→e
namespace Go.V
set_option linter.unusedVariables false
section
variable {P:e} {T:World}
def ZbY(x:Option d)(K:d->Prop):Prop:=match x with|some v=>K v|none=>False
def rvK(s:Option Bool)(n:Option Nat)(p:d)(h:Hp)(K:d->Prop):Prop:=match p with|.pointer (some a)=>ZbY (rvF s n a h) K|_=>False
def IN(P:e):List ResultVar->Env->(d->Hp->Prop)->List d->Hp->Prop
 | [],_,Q,acc,h=>Q (NE acc.reverse) h
 | .tmp t :: l,F,Q,acc,h=>IN P l F Q (F t :: acc) h
 | .cell a t :: l,F,Q,acc,h=>rvK (ta P t) (tn P t) (F a) h (fun v=>IN P l F Q (v :: acc) h)
theorem ga{F:Env}{Q:d->Hp->Prop}{h:Hp}:∀(l:List ResultVar) (acc:List d),IN P l F Q acc h->∃vs,QC P F h l=some vs/\Q (NE (acc.reverse++vs)) h:=by
 intro l
 induction l with
 | nil=>intro acc H;exact⟨[],rfl,by rw[List.append_nil];exact H⟩
 | cons x l ih=>
  intro acc H
  cases x with
  | tmp t=>
   obtain⟨vs,h1,h2⟩:=ih _ H;exact⟨F t :: vs,by simp only[QC,h1,Option.map_some],by simpa using h2⟩
  | cell a t=>
   simp only[IN,rvK]at H
   cases hp:F a with
   | pointer p=>
    rw[hp]at H
    cases p with
    | none=>exact H.elim
    | some b=>
     simp only[ZbY]at H
     cases hv:rvF (ta P t) (tn P t) b h with
     | none=>rw[hv]at H;exact H.elim
     | some v=>
      rw[hv]at H;obtain⟨vs,h1,h2⟩:=ih _ H;refine⟨v :: vs,?_,by simpa using h2⟩;simp only[QC,h1,hp];rw[fX (by rw[hv];rfl),hv];rfl
   | _=>rw[hp]at H;exact H.elim
def ER(P:e)(l:List ResultVar)(Q:d->Hp->Prop):Env->Hp->Prop:=fun F h=>IN P l F Q [] h
theorem Np{l:List ResultVar}{Q:d->Hp->Prop}(F:Env)(h:Hp)(H:ER P l Q F h):mO P l Q F h:=by
 obtain⟨vs,h1,h2⟩:=ga l [] H;show Hy P l F Q h;unfold Hy;rw[h1]
 simpa using h2
theorem Zg.vA{f:FuncId}{fn:Func}{c:Code}{l:List ResultVar}{args:List d}{h:Hp}{Q:d->Hp->Prop}(hf:P.funcs[f]? = some fn)(hb:fn.body=some c)(hl:fn.results=l.toArray)(hn:Nat.ble (i args) fn.ntmps=true)(QZ:codeOk fn.ntmps c=true)(H:vc P fn.ntmps T c (ER P l Q) BW (ER P l Q) (IH args 0) h):Zg P T f args.toArray h Q:=by
 refine Zg.I4 hf hb hl hn ?_;refine (Qr c _ _ _ _ _ QZ H).mono (fun F h q=>Np F h q) (fun _ _ _ q=>q) (fun F h q=>Np F h q)
theorem Zg.LY{h:Hp}{f:FuncId}{fn:Func}{c:Code}{l:List ResultVar}(args:List d){Q:d->Hp->Prop}(hf:P.funcs[f]? = some fn)(H:vc P fn.ntmps T c (ER P l Q) BW (ER P l Q) (IH args 0) h)(hb:fn.body=some c:=by rfl)(hl:fn.results=l.toArray:=by rfl)(hn:Nat.ble (i args) fn.ntmps=true:=by rfl)(QZ:codeOk fn.ntmps c=true:=by rfl):Zg P T f args.toArray h Q:=Zg.vA hf hb hl hn QZ H
def ZjO(P:e)(l:List ResultVar)(F:Env)(Q:d->Hp->Prop)(acc:List d)(h:Hp):d->Prop:=fun v=>IN P l F Q (v :: acc) h
variable {l:List ResultVar} {Q:d->Hp->Prop} {F:Env} {acc:List d} {h:Hp} {t a:Nat} {v:d} {K:d->Prop}
@[go_sem] theorem Zie:ER P l Q F h=IN P l F Q [] h:=rfl
@[go_sem] theorem ZjP:IN P [] F Q acc h=Q (NE acc.reverse) h:=rfl
@[go_sem] theorem ZjQ:IN P (.tmp t :: l) F Q acc h=IN P l F Q (F t :: acc) h:=rfl
@[go_sem] theorem Zif:IN P (.cell a t :: l) F Q acc h=rvK (ta P t) (tn P t) (F a) h (ZjO P l F Q acc h):=rfl
@[go_sem] theorem ZjR:ZjO P l F Q acc h v=IN P l F Q (v :: acc) h:=rfl
@[go_sem] theorem Zno{s:Option Bool}{n:Option Nat}{b:Addr}:rvK s n (.pointer (some b)) h K=ZbY (rvF s n b h) K:=rfl
@[go_sem] theorem Zig:ZbY (some v) K=K v:=rfl
attribute [go_sem] List.reverse_cons List.reverse_nil
end
end Go.V
