/- W13: results that lie in memory, more than one: read one by one. -/
import Derived.Test.YthlfaofofaphfaaDoorW12
namespace Go.V
set_option linter.unusedVariables false
section
variable {P:Program} {T:World}
def Nv (x:Option Value) (K:Value→Prop):Prop:=match x with|some v=>K v|none=>False
def Ky (s:Option Bool) (n:Option Nat) (p:Value) (h:Hp) (K:Value→Prop):Prop:=match p with|.pointer (some a)=>Nv (Nb s n a h) K|_=>False
def Ud (P:Program):List ResultVar→Env→(Value→Hp→Prop)→List Value→Hp→Prop
 | [],_,Q,acc,h=>Q (Xp acc.reverse) h
 | .tmp t :: l,F,Q,acc,h=>Ud P l F Q (F t :: acc) h
 | .cell a t :: l,F,Q,acc,h=>Ky (ta P t) (tn P t) (F a) h (fun v=>Ud P l F Q (v :: acc) h)
theorem W8 {F:Env} {Q:Value→Hp→Prop} {h:Hp}:∀(l:List ResultVar) (acc:List Value),Ud P l F Q acc h→∃vs,ZM P F h l=some vs∧Q (Xp (acc.reverse++vs)) h:=by
 intro l
 induction l with
 | nil=>intro acc H;exact⟨[],rfl,by rw[List.append_nil];exact H⟩
 | cons x l ih=>
  intro acc H
  cases x with
  | tmp t=>
   obtain⟨vs,h1,h2⟩:=ih _ H
   exact⟨F t :: vs,by simp only[ZM,h1,Option.map_some],by simpa using h2⟩
  | cell a t=>
   simp only[Ud,Ky]at H
   cases hp:F a with
   | pointer p=>
    rw[hp]at H
    cases p with
    | none=>exact H.elim
    | some b=>
     simp only[Nv]at H
     cases hv:Nb (ta P t) (tn P t) b h with
     | none=>rw[hv]at H;exact H.elim
     | some v=>
      rw[hv]at H
      obtain⟨vs,h1,h2⟩:=ih _ H
      refine⟨v :: vs,?_,by simpa using h2⟩
      simp only[ZM,h1,hp]
      rw[W2 (by rw[hv];rfl),hv]
      rfl
   | _=>rw[hp]at H;exact H.elim
def VI (P:Program) (l:List ResultVar) (Q:Value→Hp→Prop):Env→Hp→Prop:=fun F h=>Ud P l F Q [] h
theorem Xi {l:List ResultVar} {Q:Value→Hp→Prop} (F:Env) (h:Hp) (H:VI P l Q F h):Rr P l Q F h:=by
 obtain⟨vs,h1,h2⟩:=W8 l [] H
 show JQ P l F Q h
 unfold JQ
 rw[h1]
 simpa using h2
theorem Ze.UU {f:FuncId} {fn:Func} {c:Code} {l:List ResultVar} {args:List Value} {h:Hp} {Q:Value→Hp→Prop} (hf:P.funcs[f]? = some fn) (hb:fn.body=some c)
  (hl:fn.results=l.toArray) (hn:Nat.ble args.length fn.ntmps=true) (ZW:codeOk fn.ntmps c=true)
  (H:vc P fn.ntmps T c (VI P l Q) T6 (VI P l Q) (Qp args 0) h):Ze P T f args.toArray h Q:=by
 refine Ze.Vw hf hb hl hn ?_
 refine (JV c _ _ _ _ _ ZW H).mono (fun F h q=>Xi F h q) (fun _ _ _ q=>q) (fun F h q=>Xi F h q)
variable {l:List ResultVar} {Q:Value→Hp→Prop} {F:Env} {acc:List Value} {h:Hp} {t a:Nat} {v:Value} {K:Value→Prop}
@[go_sem] theorem OG:VI P l Q F h=Ud P l F Q [] h:=rfl
@[go_sem] theorem Nw:Ud P [] F Q acc h=Q (Xp acc.reverse) h:=rfl
@[go_sem] theorem Nx:Ud P (.tmp t :: l) F Q acc h=Ud P l F Q (F t :: acc) h:=rfl
attribute [go_sem] List.reverse_cons List.reverse_nil
end
end Go.V
