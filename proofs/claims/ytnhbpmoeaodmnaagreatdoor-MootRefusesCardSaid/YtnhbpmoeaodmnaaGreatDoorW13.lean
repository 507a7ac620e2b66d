/- W13: results that lie in memory, more than one: read one by one. -/
import Derived.Test.YtnhbpmoeaodmnaaGreatDoorW12
namespace Go.V
set_option linter.unusedVariables false
section
variable {P:Program} {T:World}
def resC (x:Option Value) (K:Value→Prop):Prop:=match x with | some v=>K v | none=>False
def rvK (s:Option Bool) (n:Option Nat) (p:Value) (h:Hp) (K:Value→Prop):Prop:=match p with | .pointer (some a)=>resC (rvF s n a h) K | _=>False
def resK (P:Program):List ResultVar→Env→(Value→Hp→Prop)→List Value→Hp→Prop
 | [],_,Q,acc,h=>Q (resOne acc.reverse) h
 | .tmp t :: l,F,Q,acc,h=>resK P l F Q (F t :: acc) h
 | .cell a t :: l,F,Q,acc,h=>rvK (ta P t) (tn P t) (F a) h (fun v=>resK P l F Q (v :: acc) h)
theorem resK_sound {F:Env} {Q:Value→Hp→Prop} {h:Hp}:∀ (l:List ResultVar) (acc:List Value),resK P l F Q acc h→∃ vs,resVals P F h l=some vs∧Q (resOne (acc.reverse++vs)) h:=by
 intro l
 induction l with
 | nil=>intro acc H; exact ⟨[],rfl,by rw [List.append_nil]; exact H⟩
 | cons x l ih=>
  intro acc H
  cases x with
  | tmp t=>
   obtain ⟨vs,h1,h2⟩:=ih _ H
   exact ⟨F t :: vs,by simp only [resVals,h1,Option.map_some],by simpa using h2⟩
  | cell a t=>
   simp only [resK,rvK] at H
   cases hp:F a with
   | pointer p=>
    rw [hp] at H
    cases p with
    | none=>exact H.elim
    | some b=>
     simp only [resC] at H
     cases hv:rvF (ta P t) (tn P t) b h with
     | none=>rw [hv] at H; exact H.elim
     | some v=>
      rw [hv] at H
      obtain ⟨vs,h1,h2⟩:=ih _ H
      refine ⟨v :: vs,?_,by simpa using h2⟩
      simp only [resVals,h1,hp]
      rw [readVar_eq (by rw [hv]; rfl),hv]
      rfl
   | _=>rw [hp] at H; exact H.elim
def nRes2 (P:Program) (l:List ResultVar) (Q:Value→Hp→Prop):Env→Hp→Prop:=fun F h=>resK P l F Q [] h
theorem nRes_of_nRes2 {l:List ResultVar} {Q:Value→Hp→Prop} (F:Env) (h:Hp) (H:nRes2 P l Q F h):nRes P l Q F h:=by
 obtain ⟨vs,h1,h2⟩:=resK_sound l [] H
 show resH P l F Q h
 unfold resH
 rw [h1]
 simpa using h2
theorem CallsH.of_code2 {f:FuncId} {fn:Func} {c:Code} {l:List ResultVar} {args:List Value} {h:Hp} {Q:Value→Hp→Prop} (hf:P.funcs[f]? = some fn) (hb:fn.body=some c)
  (hl:fn.results=l.toArray) (hn:Nat.ble args.length fn.ntmps=true) (hok:codeOk fn.ntmps c=true)
  (H:vc P fn.ntmps T c (nRes2 P l Q) xNone (nRes2 P l Q) (envL args 0) h):CallsH P T f args.toArray h Q:=by
 refine CallsH.of_body hf hb hl hn ?_
 refine (vc_sound c _ _ _ _ _ hok H).mono (fun F h q=>nRes_of_nRes2 F h q) (fun _ _ _ q=>q) (fun F h q=>nRes_of_nRes2 F h q)
def kRes (P:Program) (l:List ResultVar) (F:Env) (Q:Value→Hp→Prop) (acc:List Value) (h:Hp):Value→Prop:=fun v=>resK P l F Q (v :: acc) h
variable {l:List ResultVar} {Q:Value→Hp→Prop} {F:Env} {acc:List Value} {h:Hp} {t a:Nat} {v:Value} {K:Value→Prop}
@[go_sem] theorem nRes2_app:nRes2 P l Q F h=resK P l F Q [] h:=rfl
@[go_sem] theorem resK_nil:resK P [] F Q acc h=Q (resOne acc.reverse) h:=rfl
@[go_sem] theorem resK_tmp:resK P (.tmp t :: l) F Q acc h=resK P l F Q (F t :: acc) h:=rfl
@[go_sem] theorem resK_cell:resK P (.cell a t :: l) F Q acc h=rvK (ta P t) (tn P t) (F a) h (kRes P l F Q acc h):=rfl
@[go_sem] theorem kRes_app:kRes P l F Q acc h v=resK P l F Q (v :: acc) h:=rfl
@[go_sem] theorem rvK_ptr {s:Option Bool} {n:Option Nat} {b:Addr}:rvK s n (.pointer (some b)) h K=resC (rvF s n b h) K:=rfl
@[go_sem] theorem resC_some:resC (some v) K=K v:=rfl
attribute [go_sem] List.reverse_cons List.reverse_nil
end
end Go.V
