/- W13: results that lie in memory, more than one: read one by one. -/
import Derived.Test.YtkfhncfkagcamaaGreatDoorW12
namespace Go.V
set_option linter.unusedVariables false
section
variable {P:Program} {T:World}
def sH (x:Option Value) (K:Value→Prop):Prop:=match x with|some v=>K v|none=>False
def rvK (s:Option Bool) (n:Option Nat) (p:Value) (h:Hp) (K:Value→Prop):Prop:=match p with|.pointer (some a)=>sH (za s n a h) K|_=>False
def Mj (P:Program):List ResultVar→Env→(Value→Hp→Prop)→List Value→Hp→Prop
 | [],_,Q,acc,h=>Q (Rj acc.reverse) h
 | .tmp t :: l,F,Q,acc,h=>Mj P l F Q (F t :: acc) h
 | .cell a t :: l,F,Q,acc,h=>rvK (ta P t) (tn P t) (F a) h (fun v=>Mj P l F Q (v :: acc) h)
theorem BG {F:Env} {Q:Value→Hp→Prop} {h:Hp}:∀(l:List ResultVar) (acc:List Value),Mj P l F Q acc h→∃vs,Jm P F h l=some vs∧Q (Rj (acc.reverse++vs)) h:=by
 intro l
 induction l with
 | nil=>intro acc H;exact⟨[],rfl,by rw[List.append_nil];exact H⟩
 | cons x l ih=>
  intro acc H
  cases x with
  | tmp t=>
   obtain⟨vs,h1,h2⟩:=ih _ H
   exact⟨F t :: vs,by simp only[Jm,h1,Option.map_some],by simpa using h2⟩
  | cell a t=>
   simp only[Mj,rvK]at H
   cases hp:F a with
   | pointer p=>
    rw[hp]at H
    cases p with
    | none=>exact H.elim
    | some b=>
     simp only[sH]at H
     cases hv:za (ta P t) (tn P t) b h with
     | none=>rw[hv]at H;exact H.elim
     | some v=>
      rw[hv]at H
      obtain⟨vs,h1,h2⟩:=ih _ H
      refine⟨v :: vs,?_,by simpa using h2⟩
      simp only[Jm,h1,hp]
      rw[BD (by rw[hv];rfl),hv]
      rfl
   | _=>rw[hp]at H;exact H.elim
def bM (P:Program) (l:List ResultVar) (Q:Value→Hp→Prop):Env→Hp→Prop:=fun F h=>Mj P l F Q [] h
theorem S3 {l:List ResultVar} {Q:Value→Hp→Prop} (F:Env) (h:Hp) (H:bM P l Q F h):qX P l Q F h:=by
 obtain⟨vs,h1,h2⟩:=BG l [] H
 show MY P l F Q h
 unfold MY
 rw[h1]
 simpa using h2
theorem Zd.XM {f:FuncId} {fn:Func} {c:Code} {l:List ResultVar} {args:List Value} {h:Hp} {Q:Value→Hp→Prop} (hf:P.funcs[f]? = some fn) (hb:fn.body=some c)
  (hl:fn.results=l.toArray) (hn:Nat.ble args.length fn.ntmps=true) (Jk:codeOk fn.ntmps c=true)
  (H:vc P fn.ntmps T c (bM P l Q) jU (bM P l Q) (KZ args 0) h):Zd P T f args.toArray h Q:=by
 refine Zd.Mz hf hb hl hn ?_
 refine (X6 c _ _ _ _ _ Jk H).mono (fun F h q=>S3 F h q) (fun _ _ _ q=>q) (fun F h q=>S3 F h q)
def Zda (P:Program) (l:List ResultVar) (F:Env) (Q:Value→Hp→Prop) (acc:List Value) (h:Hp):Value→Prop:=fun v=>Mj P l F Q (v :: acc) h
variable {l:List ResultVar} {Q:Value→Hp→Prop} {F:Env} {acc:List Value} {h:Hp} {t a:Nat} {v:Value} {K:Value→Prop}
@[go_sem] theorem ZbC:bM P l Q F h=Mj P l F Q [] h:=rfl
@[go_sem] theorem Zdb:Mj P [] F Q acc h=Q (Rj acc.reverse) h:=rfl
@[go_sem] theorem Zdc:Mj P (.tmp t :: l) F Q acc h=Mj P l F Q (F t :: acc) h:=rfl
@[go_sem] theorem ZbD:Mj P (.cell a t :: l) F Q acc h=rvK (ta P t) (tn P t) (F a) h (Zda P l F Q acc h):=rfl
@[go_sem] theorem Zdd:Zda P l F Q acc h v=Mj P l F Q (v :: acc) h:=rfl
@[go_sem] theorem ZgO {s:Option Bool} {n:Option Nat} {b:Addr}:rvK s n (.pointer (some b)) h K=sH (za s n b h) K:=rfl
@[go_sem] theorem ZbE:sH (some v) K=K v:=rfl
attribute [go_sem] List.reverse_cons List.reverse_nil
end
end Go.V
