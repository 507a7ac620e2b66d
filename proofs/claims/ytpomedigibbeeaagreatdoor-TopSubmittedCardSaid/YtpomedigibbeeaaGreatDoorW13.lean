/- W13: results that lie in memory, more than one: read one by one. -/
import Derived.Test.YtpomedigibbeeaaGreatDoorW12
namespace Go.V
set_option linter.unusedVariables false
section
variable {P:Program} {T:World}
def sO (x:Option Value) (K:Value→Prop):Prop:=match x with|some v=>K v|none=>False
def rvK (s:Option Bool) (n:Option Nat) (p:Value) (h:Hp) (K:Value→Prop):Prop:=match p with|.pointer (some a)=>sO (zf s n a h) K|_=>False
def Mw (P:Program):List ResultVar→Env→(Value→Hp→Prop)→List Value→Hp→Prop
 | [],_,Q,acc,h=>Q (Rv acc.reverse) h
 | .tmp t :: l,F,Q,acc,h=>Mw P l F Q (F t :: acc) h
 | .cell a t :: l,F,Q,acc,h=>rvK (ta P t) (tn P t) (F a) h (fun v=>Mw P l F Q (v :: acc) h)
theorem BD {F:Env} {Q:Value→Hp→Prop} {h:Hp}:∀(l:List ResultVar) (acc:List Value),Mw P l F Q acc h→∃vs,Jq P F h l=some vs∧Q (Rv (acc.reverse++vs)) h:=by
 intro l
 induction l with
 | nil=>intro acc H;exact⟨[],rfl,by rw[List.append_nil];exact H⟩
 | cons x l ih=>
  intro acc H
  cases x with
  | tmp t=>
   obtain⟨vs,h1,h2⟩:=ih _ H
   exact⟨F t :: vs,by simp only[Jq,h1,Option.map_some],by simpa using h2⟩
  | cell a t=>
   simp only[Mw,rvK]at H
   cases hp:F a with
   | pointer p=>
    rw[hp]at H
    cases p with
    | none=>exact H.elim
    | some b=>
     simp only[sO]at H
     cases hv:zf (ta P t) (tn P t) b h with
     | none=>rw[hv]at H;exact H.elim
     | some v=>
      rw[hv]at H
      obtain⟨vs,h1,h2⟩:=ih _ H
      refine⟨v :: vs,?_,by simpa using h2⟩
      simp only[Jq,h1,hp]
      rw[Bz (by rw[hv];rfl),hv]
      rfl
   | _=>rw[hp]at H;exact H.elim
def bK (P:Program) (l:List ResultVar) (Q:Value→Hp→Prop):Env→Hp→Prop:=fun F h=>Mw P l F Q [] h
theorem Ri {l:List ResultVar} {Q:Value→Hp→Prop} (F:Env) (h:Hp) (H:bK P l Q F h):rE P l Q F h:=by
 obtain⟨vs,h1,h2⟩:=BD l [] H
 show Li P l F Q h
 unfold Li
 rw[h1]
 simpa using h2
theorem Zd.XO {f:FuncId} {fn:Func} {c:Code} {l:List ResultVar} {args:List Value} {h:Hp} {Q:Value→Hp→Prop} (hf:P.funcs[f]? = some fn) (hb:fn.body=some c)
  (hl:fn.results=l.toArray) (hn:Nat.ble args.length fn.ntmps=true) (JW:codeOk fn.ntmps c=true)
  (H:vc P fn.ntmps T c (bK P l Q) j1 (bK P l Q) (Ij args 0) h):Zd P T f args.toArray h Q:=by
 refine Zd.MM hf hb hl hn ?_
 refine (Jc c _ _ _ _ _ JW H).mono (fun F h q=>Ri F h q) (fun _ _ _ q=>q) (fun F h q=>Ri F h q)
def Zdq (P:Program) (l:List ResultVar) (F:Env) (Q:Value→Hp→Prop) (acc:List Value) (h:Hp):Value→Prop:=fun v=>Mw P l F Q (v :: acc) h
variable {l:List ResultVar} {Q:Value→Hp→Prop} {F:Env} {acc:List Value} {h:Hp} {t a:Nat} {v:Value} {K:Value→Prop}
@[go_sem] theorem ZbY:bK P l Q F h=Mw P l F Q [] h:=rfl
@[go_sem] theorem Zdr:Mw P [] F Q acc h=Q (Rv acc.reverse) h:=rfl
@[go_sem] theorem Zds:Mw P (.tmp t :: l) F Q acc h=Mw P l F Q (F t :: acc) h:=rfl
@[go_sem] theorem ZbZ:Mw P (.cell a t :: l) F Q acc h=rvK (ta P t) (tn P t) (F a) h (Zdq P l F Q acc h):=rfl
@[go_sem] theorem Zdt:Zdq P l F Q acc h v=Mw P l F Q (v :: acc) h:=rfl
@[go_sem] theorem ZgO {s:Option Bool} {n:Option Nat} {b:Addr}:rvK s n (.pointer (some b)) h K=sO (zf s n b h) K:=rfl
@[go_sem] theorem Zb0:sO (some v) K=K v:=rfl
attribute [go_sem] List.reverse_cons List.reverse_nil
end
end Go.V
