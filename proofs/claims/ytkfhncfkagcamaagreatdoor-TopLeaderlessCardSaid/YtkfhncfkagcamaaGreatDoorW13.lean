/- W13: results that lie in memory, more than one: read one by one. -/
import Derived.Test.YtkfhncfkagcamaaGreatDoorW12
namespace Go.V
set_option linter.unusedVariables false
section
variable {P:Program} {T:World}
def qd (x:Option Value) (K:Value→Prop):Prop:=match x with|some v=>K v|none=>False
def rvK (s:Option Bool) (n:Option Nat) (p:Value) (h:Hp) (K:Value→Prop):Prop:=match p with|.pointer (some a)=>qd (vY s n a h) K|_=>False
def NU (P:Program):List ResultVar→Env→(Value→Hp→Prop)→List Value→Hp→Prop
 | [],_,Q,acc,h=>Q (S4 acc.reverse) h
 | .tmp t :: l,F,Q,acc,h=>NU P l F Q (F t :: acc) h
 | .cell a t :: l,F,Q,acc,h=>rvK (ta P t) (tn P t) (F a) h (fun v=>NU P l F Q (v :: acc) h)
theorem CI {F:Env} {Q:Value→Hp→Prop} {h:Hp}:∀(l:List ResultVar) (acc:List Value),NU P l F Q acc h→∃vs,Jd P F h l=some vs∧Q (S4 (acc.reverse++vs)) h:=by
 intro l
 induction l with
 | nil=>intro acc H;exact⟨[],rfl,by rw[List.append_nil];exact H⟩
 | cons x l ih=>
  intro acc H
  cases x with
  | tmp t=>
   obtain⟨vs,h1,h2⟩:=ih _ H
   exact⟨F t :: vs,by simp only[Jd,h1,Option.map_some],by simpa using h2⟩
  | cell a t=>
   simp only[NU,rvK]at H
   cases hp:F a with
   | pointer p=>
    rw[hp]at H
    cases p with
    | none=>exact H.elim
    | some b=>
     simp only[qd]at H
     cases hv:vY (ta P t) (tn P t) b h with
     | none=>rw[hv]at H;exact H.elim
     | some v=>
      rw[hv]at H
      obtain⟨vs,h1,h2⟩:=ih _ H
      refine⟨v :: vs,?_,by simpa using h2⟩
      simp only[Jd,h1,hp]
      rw[CE (by rw[hv];rfl),hv]
      rfl
   | _=>rw[hp]at H;exact H.elim
def ab (P:Program) (l:List ResultVar) (Q:Value→Hp→Prop):Env→Hp→Prop:=fun F h=>NU P l F Q [] h
theorem SN {l:List ResultVar} {Q:Value→Hp→Prop} (F:Env) (h:Hp) (H:ab P l Q F h):oX P l Q F h:=by
 obtain⟨vs,h1,h2⟩:=CI l [] H
 show MH P l F Q h
 unfold MH
 rw[h1]
 simpa using h2
theorem Zc.XI {f:FuncId} {fn:Func} {c:Code} {l:List ResultVar} {args:List Value} {h:Hp} {Q:Value→Hp→Prop} (hf:P.funcs[f]? = some fn) (hb:fn.body=some c)
  (hl:fn.results=l.toArray) (hn:Nat.ble args.length fn.ntmps=true) (JF:codeOk fn.ntmps c=true)
  (H:vc P fn.ntmps T c (ab P l Q) iE (ab P l Q) (Kv args 0) h):Zc P T f args.toArray h Q:=by
 refine Zc.Mj hf hb hl hn ?_
 refine (X1 c _ _ _ _ _ JF H).mono (fun F h q=>SN F h q) (fun _ _ _ q=>q) (fun F h q=>SN F h q)
def ZbL (P:Program) (l:List ResultVar) (F:Env) (Q:Value→Hp→Prop) (acc:List Value) (h:Hp):Value→Prop:=fun v=>NU P l F Q (v :: acc) h
variable {l:List ResultVar} {Q:Value→Hp→Prop} {F:Env} {acc:List Value} {h:Hp} {t a:Nat} {v:Value} {K:Value→Prop}
@[go_sem] theorem Zah:ab P l Q F h=NU P l F Q [] h:=rfl
@[go_sem] theorem ZbM:NU P [] F Q acc h=Q (S4 acc.reverse) h:=rfl
@[go_sem] theorem ZbN:NU P (.tmp t :: l) F Q acc h=NU P l F Q (F t :: acc) h:=rfl
@[go_sem] theorem Zai:NU P (.cell a t :: l) F Q acc h=rvK (ta P t) (tn P t) (F a) h (ZbL P l F Q acc h):=rfl
@[go_sem] theorem ZbO:ZbL P l F Q acc h v=NU P l F Q (v :: acc) h:=rfl
@[go_sem] theorem Zfb {s:Option Bool} {n:Option Nat} {b:Addr}:rvK s n (.pointer (some b)) h K=qd (vY s n b h) K:=rfl
@[go_sem] theorem Zaj:qd (some v) K=K v:=rfl
attribute [go_sem] List.reverse_cons List.reverse_nil
end
end Go.V
