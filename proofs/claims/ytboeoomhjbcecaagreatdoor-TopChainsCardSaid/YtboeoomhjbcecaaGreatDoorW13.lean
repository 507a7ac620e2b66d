/- W13: results that lie in memory, more than one: read one by one. -/
import Derived.Test.YtboeoomhjbcecaaGreatDoorW12
namespace Go.V
set_option linter.unusedVariables false
section
variable {P:Program} {T:World}
def vj (x:Option Value) (K:Value→Prop):Prop:=match x with|some v=>K v|none=>False
def rvK (s:Option Bool) (n:Option Nat) (p:Value) (h:Hp) (K:Value→Prop):Prop:=match p with|.pointer (some a)=>vj (rvF s n a h) K|_=>False
def MX (P:Program):List ResultVar→Env→(Value→Hp→Prop)→List Value→Hp→Prop
 | [],_,Q,acc,h=>Q (RJ acc.reverse) h
 | .tmp t :: l,F,Q,acc,h=>MX P l F Q (F t :: acc) h
 | .cell a t :: l,F,Q,acc,h=>rvK (ta P t) (tn P t) (F a) h (fun v=>MX P l F Q (v :: acc) h)
theorem AI {F:Env} {Q:Value→Hp→Prop} {h:Hp}:∀(l:List ResultVar) (acc:List Value),MX P l F Q acc h→∃vs,JC P F h l=some vs∧Q (RJ (acc.reverse++vs)) h:=by
 intro l
 induction l with
 | nil=>intro acc H;exact⟨[],rfl,by rw[List.append_nil];exact H⟩
 | cons x l ih=>
  intro acc H
  cases x with
  | tmp t=>
   obtain⟨vs,h1,h2⟩:=ih _ H;exact⟨F t :: vs,by simp only[JC,h1,Option.map_some],by simpa using h2⟩
  | cell a t=>
   simp only[MX,rvK]at H
   cases hp:F a with
   | pointer p=>
    rw[hp]at H
    cases p with
    | none=>exact H.elim
    | some b=>
     simp only[vj]at H
     cases hv:rvF (ta P t) (tn P t) b h with
     | none=>rw[hv]at H;exact H.elim
     | some v=>
      rw[hv]at H;obtain⟨vs,h1,h2⟩:=ih _ H;refine⟨v :: vs,?_,by simpa using h2⟩;simp only[JC,h1,hp];rw[AF (by rw[hv];rfl),hv];rfl
   | _=>rw[hp]at H;exact H.elim
def dA (P:Program) (l:List ResultVar) (Q:Value→Hp→Prop):Env→Hp→Prop:=fun F h=>MX P l F Q [] h
theorem Rr {l:List ResultVar} {Q:Value→Hp→Prop} (F:Env) (h:Hp) (H:dA P l Q F h):uo P l Q F h:=by
 obtain⟨vs,h1,h2⟩:=AI l [] H;show LQ P l F Q h;unfold LQ;rw[h1]
 simpa using h2
theorem Zc.XK {f:FuncId} {fn:Func} {c:Code} {l:List ResultVar} {args:List Value} {h:Hp} {Q:Value→Hp→Prop} (hf:P.funcs[f]? = some fn) (hb:fn.body=some c)
  (hl:fn.results=l.toArray) (hn:Nat.ble args.length fn.ntmps=true) (J8:codeOk fn.ntmps c=true)
  (H:vc P fn.ntmps T c (dA P l Q) mi (dA P l Q) (IP args 0) h):Zc P T f args.toArray h Q:=by
 refine Zc.Lk hf hb hl hn ?_;refine (Jl c _ _ _ _ _ J8 H).mono (fun F h q=>Rr F h q) (fun _ _ _ q=>q) (fun F h q=>Rr F h q)
def ZeS (P:Program) (l:List ResultVar) (F:Env) (Q:Value→Hp→Prop) (acc:List Value) (h:Hp):Value→Prop:=fun v=>MX P l F Q (v :: acc) h
variable {l:List ResultVar} {Q:Value→Hp→Prop} {F:Env} {acc:List Value} {h:Hp} {t a:Nat} {v:Value} {K:Value→Prop}
@[go_sem] theorem Zdo:dA P l Q F h=MX P l F Q [] h:=rfl
@[go_sem] theorem ZeT:MX P [] F Q acc h=Q (RJ acc.reverse) h:=rfl
@[go_sem] theorem ZeU:MX P (.tmp t :: l) F Q acc h=MX P l F Q (F t :: acc) h:=rfl
@[go_sem] theorem Zdp:MX P (.cell a t :: l) F Q acc h=rvK (ta P t) (tn P t) (F a) h (ZeS P l F Q acc h):=rfl
@[go_sem] theorem ZeV:ZeS P l F Q acc h v=MX P l F Q (v :: acc) h:=rfl
@[go_sem] theorem Zib {s:Option Bool} {n:Option Nat} {b:Addr}:rvK s n (.pointer (some b)) h K=vj (rvF s n b h) K:=rfl
@[go_sem] theorem Zdq:vj (some v) K=K v:=rfl
attribute [go_sem] List.reverse_cons List.reverse_nil
end
end Go.V
