/- W13: results that lie in memory, more than one: read one by one. -/
import Derived.Test.YtnhbpmoeaodmnaaGreatDoorW12
namespace Go.V
set_option linter.unusedVariables false
section
variable {P:Program} {T:World}
def Zvj (x:Option Value) (K:Value→Prop):Prop:=match x with|some v=>K v|none=>False
def rvK (s:Option Bool) (n:Option Nat) (p:Value) (h:Hp) (K:Value→Prop):Prop:=match p with|.pointer (some a)=>Zvj (rvF s n a h) K|_=>False
def Zfq (P:Program):List ResultVar→Env→(Value→Hp→Prop)→List Value→Hp→Prop
 | [],_,Q,acc,h=>Q (ZcO acc.reverse) h
 | .tmp t :: l,F,Q,acc,h=>Zfq P l F Q (F t :: acc) h
 | .cell a t :: l,F,Q,acc,h=>rvK (ta P t) (tn P t) (F a) h (fun v=>Zfq P l F Q (v :: acc) h)
theorem ZmD {F:Env} {Q:Value→Hp→Prop} {h:Hp}:∀(l:List ResultVar) (acc:List Value),Zfq P l F Q acc h→∃vs,Ji P F h l=some vs∧Q (ZcO (acc.reverse++vs)) h:=by
 intro l
 induction l with
 | nil=>intro acc H;exact⟨[],rfl,by rw[List.append_nil];exact H⟩
 | cons x l ih=>
  intro acc H
  cases x with
  | tmp t=>
   obtain⟨vs,h1,h2⟩:=ih _ H
   exact⟨F t :: vs,by simp only[Ji,h1,Option.map_some],by simpa using h2⟩
  | cell a t=>
   simp only[Zfq,rvK]at H
   cases hp:F a with
   | pointer p=>
    rw[hp]at H
    cases p with
    | none=>exact H.elim
    | some b=>
     simp only[Zvj]at H
     cases hv:rvF (ta P t) (tn P t) b h with
     | none=>rw[hv]at H;exact H.elim
     | some v=>
      rw[hv]at H
      obtain⟨vs,h1,h2⟩:=ih _ H
      refine⟨v :: vs,?_,by simpa using h2⟩
      simp only[Ji,h1,hp]
      rw[ZmA (by rw[hv];rfl),hv]
      rfl
   | _=>rw[hp]at H;exact H.elim
def Zoj (P:Program) (l:List ResultVar) (Q:Value→Hp→Prop):Env→Hp→Prop:=fun F h=>Zfq P l F Q [] h
theorem ZcF {l:List ResultVar} {Q:Value→Hp→Prop} (F:Env) (h:Hp) (H:Zoj P l Q F h):ZuL P l Q F h:=by
 obtain⟨vs,h1,h2⟩:=ZmD l [] H
 show ZfX P l F Q h
 unfold ZfX
 rw[h1]
 simpa using h2
theorem Zd.XM {f:FuncId} {fn:Func} {c:Code} {l:List ResultVar} {args:List Value} {h:Hp} {Q:Value→Hp→Prop} (hf:P.funcs[f]? = some fn) (hb:fn.body=some c)
  (hl:fn.results=l.toArray) (hn:Nat.ble args.length fn.ntmps=true) (JL:codeOk fn.ntmps c=true)
  (H:vc P fn.ntmps T c (Zoj P l Q) Zru (Zoj P l Q) (Zhm args 0) h):Zd P T f args.toArray h Q:=by
 refine Zd.ZfC hf hb hl hn ?_
 refine (X3 c _ _ _ _ _ JL H).mono (fun F h q=>ZcF F h q) (fun _ _ _ q=>q) (fun F h q=>ZcF F h q)
def Zz3 (P:Program) (l:List ResultVar) (F:Env) (Q:Value→Hp→Prop) (acc:List Value) (h:Hp):Value→Prop:=fun v=>Zfq P l F Q (v :: acc) h
variable {l:List ResultVar} {Q:Value→Hp→Prop} {F:Env} {acc:List Value} {h:Hp} {t a:Nat} {v:Value} {K:Value→Prop}
@[go_sem] theorem Zzh:Zoj P l Q F h=Zfq P l F Q [] h:=rfl
@[go_sem] theorem Zz4:Zfq P [] F Q acc h=Q (ZcO acc.reverse) h:=rfl
@[go_sem] theorem Zz5:Zfq P (.tmp t :: l) F Q acc h=Zfq P l F Q (F t :: acc) h:=rfl
@[go_sem] theorem Zzi:Zfq P (.cell a t :: l) F Q acc h=rvK (ta P t) (tn P t) (F a) h (Zz3 P l F Q acc h):=rfl
@[go_sem] theorem Zz6:Zz3 P l F Q acc h v=Zfq P l F Q (v :: acc) h:=rfl
@[go_sem] theorem ZCa {s:Option Bool} {n:Option Nat} {b:Addr}:rvK s n (.pointer (some b)) h K=Zvj (rvF s n b h) K:=rfl
@[go_sem] theorem Zzj:Zvj (some v) K=K v:=rfl
attribute [go_sem] List.reverse_cons List.reverse_nil
end
end Go.V
