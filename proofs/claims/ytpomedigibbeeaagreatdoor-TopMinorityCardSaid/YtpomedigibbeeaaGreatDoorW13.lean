/- W13: results that lie in memory, more than one: read one by one. -/
import Derived.Test.YtpomedigibbeeaaGreatDoorW12
namespace Go.V
set_option linter.unusedVariables false
section
variable {P:Program} {T:World}
def qf (x:Option Value) (K:Value→Prop):Prop:=match x with|some v=>K v|none=>False
def rvK (s:Option Bool) (n:Option Nat) (p:Value) (h:Hp) (K:Value→Prop):Prop:=match p with|.pointer (some a)=>qf (wF s n a h) K|_=>False
def NN (P:Program):List ResultVar→Env→(Value→Hp→Prop)→List Value→Hp→Prop
 | [],_,Q,acc,h=>Q (SQ acc.reverse) h
 | .tmp t :: l,F,Q,acc,h=>NN P l F Q (F t :: acc) h
 | .cell a t :: l,F,Q,acc,h=>rvK (ta P t) (tn P t) (F a) h (fun v=>NN P l F Q (v :: acc) h)
theorem CN {F:Env} {Q:Value→Hp→Prop} {h:Hp}:∀(l:List ResultVar) (acc:List Value),NN P l F Q acc h→∃vs,Jc P F h l=some vs∧Q (SQ (acc.reverse++vs)) h:=by
 intro l
 induction l with
 | nil=>intro acc H;exact⟨[],rfl,by rw[List.append_nil];exact H⟩
 | cons x l ih=>
  intro acc H
  cases x with
  | tmp t=>
   obtain⟨vs,h1,h2⟩:=ih _ H
   exact⟨F t :: vs,by simp only[Jc,h1,Option.map_some],by simpa using h2⟩
  | cell a t=>
   simp only[NN,rvK]at H
   cases hp:F a with
   | pointer p=>
    rw[hp]at H
    cases p with
    | none=>exact H.elim
    | some b=>
     simp only[qf]at H
     cases hv:wF (ta P t) (tn P t) b h with
     | none=>rw[hv]at H;exact H.elim
     | some v=>
      rw[hv]at H
      obtain⟨vs,h1,h2⟩:=ih _ H
      refine⟨v :: vs,?_,by simpa using h2⟩
      simp only[Jc,h1,hp]
      rw[CK (by rw[hv];rfl),hv]
      rfl
   | _=>rw[hp]at H;exact H.elim
def ag (P:Program) (l:List ResultVar) (Q:Value→Hp→Prop):Env→Hp→Prop:=fun F h=>NN P l F Q [] h
theorem SC {l:List ResultVar} {Q:Value→Hp→Prop} (F:Env) (h:Hp) (H:ag P l Q F h):oZ P l Q F h:=by
 obtain⟨vs,h1,h2⟩:=CN l [] H
 show MB P l F Q h
 unfold MB
 rw[h1]
 simpa using h2
theorem Zc.XJ {f:FuncId} {fn:Func} {c:Code} {l:List ResultVar} {args:List Value} {h:Hp} {Q:Value→Hp→Prop} (hf:P.funcs[f]? = some fn) (hb:fn.body=some c)
  (hl:fn.results=l.toArray) (hn:Nat.ble args.length fn.ntmps=true) (JD:codeOk fn.ntmps c=true)
  (H:vc P fn.ntmps T c (ag P l Q) iG (ag P l Q) (Ky args 0) h):Zc P T f args.toArray h Q:=by
 refine Zc.Mb hf hb hl hn ?_
 refine (XZ c _ _ _ _ _ JD H).mono (fun F h q=>SC F h q) (fun _ _ _ q=>q) (fun F h q=>SC F h q)
def ZbX (P:Program) (l:List ResultVar) (F:Env) (Q:Value→Hp→Prop) (acc:List Value) (h:Hp):Value→Prop:=fun v=>NN P l F Q (v :: acc) h
variable {l:List ResultVar} {Q:Value→Hp→Prop} {F:Env} {acc:List Value} {h:Hp} {t a:Nat} {v:Value} {K:Value→Prop}
@[go_sem] theorem Zas:ag P l Q F h=NN P l F Q [] h:=rfl
@[go_sem] theorem ZbY:NN P [] F Q acc h=Q (SQ acc.reverse) h:=rfl
@[go_sem] theorem ZbZ:NN P (.tmp t :: l) F Q acc h=NN P l F Q (F t :: acc) h:=rfl
@[go_sem] theorem Zat:NN P (.cell a t :: l) F Q acc h=rvK (ta P t) (tn P t) (F a) h (ZbX P l F Q acc h):=rfl
@[go_sem] theorem Zb0:ZbX P l F Q acc h v=NN P l F Q (v :: acc) h:=rfl
@[go_sem] theorem Zfl {s:Option Bool} {n:Option Nat} {b:Addr}:rvK s n (.pointer (some b)) h K=qf (wF s n b h) K:=rfl
@[go_sem] theorem Zau:qf (some v) K=K v:=rfl
attribute [go_sem] List.reverse_cons List.reverse_nil
end
end Go.V
