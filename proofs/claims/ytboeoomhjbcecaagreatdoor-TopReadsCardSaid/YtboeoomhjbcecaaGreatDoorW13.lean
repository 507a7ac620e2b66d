/- W13: results that lie in memory, more than one: read one by one. -/
import Derived.Test.YtboeoomhjbcecaaGreatDoorW12
namespace Go.V
set_option linter.unusedVariables false
section
variable {P:Program} {T:World}
def uY (x:Option Value) (K:Value→Prop):Prop:=match x with|some v=>K v|none=>False
def rvK (s:Option Bool) (n:Option Nat) (p:Value) (h:Hp) (K:Value→Prop):Prop:=match p with|.pointer (some a)=>uY (rvF s n a h) K|_=>False
def M7 (P:Program):List ResultVar→Env→(Value→Hp→Prop)→List Value→Hp→Prop
 | [],_,Q,acc,h=>Q (RS acc.reverse) h
 | .tmp t :: l,F,Q,acc,h=>M7 P l F Q (F t :: acc) h
 | .cell a t :: l,F,Q,acc,h=>rvK (ta P t) (tn P t) (F a) h (fun v=>M7 P l F Q (v :: acc) h)
theorem AG {F:Env} {Q:Value→Hp→Prop} {h:Hp}:∀(l:List ResultVar) (acc:List Value),M7 P l F Q acc h→∃vs,JH P F h l=some vs∧Q (RS (acc.reverse++vs)) h:=by
 intro l
 induction l with
 | nil=>intro acc H;exact⟨[],rfl,by rw[List.append_nil];exact H⟩
 | cons x l ih=>
  intro acc H
  cases x with
  | tmp t=>
   obtain⟨vs,h1,h2⟩:=ih _ H;exact⟨F t :: vs,by simp only[JH,h1,Option.map_some],by simpa using h2⟩
  | cell a t=>
   simp only[M7,rvK]at H
   cases hp:F a with
   | pointer p=>
    rw[hp]at H
    cases p with
    | none=>exact H.elim
    | some b=>
     simp only[uY]at H
     cases hv:rvF (ta P t) (tn P t) b h with
     | none=>rw[hv]at H;exact H.elim
     | some v=>
      rw[hv]at H;obtain⟨vs,h1,h2⟩:=ih _ H;refine⟨v :: vs,?_,by simpa using h2⟩;simp only[JH,h1,hp];rw[AD (by rw[hv];rfl),hv];rfl
   | _=>rw[hp]at H;exact H.elim
def dx (P:Program) (l:List ResultVar) (Q:Value→Hp→Prop):Env→Hp→Prop:=fun F h=>M7 P l F Q [] h
theorem RC {l:List ResultVar} {Q:Value→Hp→Prop} (F:Env) (h:Hp) (H:dx P l Q F h):uh P l Q F h:=by
 obtain⟨vs,h1,h2⟩:=AG l [] H;show LX P l F Q h;unfold LX;rw[h1]
 simpa using h2
theorem Zc.XM {f:FuncId} {fn:Func} {c:Code} {l:List ResultVar} {args:List Value} {h:Hp} {Q:Value→Hp→Prop} (hf:P.funcs[f]? = some fn) (hb:fn.body=some c)
  (hl:fn.results=l.toArray) (hn:Nat.ble args.length fn.ntmps=true) (J2:codeOk fn.ntmps c=true)
  (H:vc P fn.ntmps T c (dx P l Q) mh (dx P l Q) (IW args 0) h):Zc P T f args.toArray h Q:=by
 refine Zc.Lo hf hb hl hn ?_;refine (Jp c _ _ _ _ _ J2 H).mono (fun F h q=>RC F h q) (fun _ _ _ q=>q) (fun F h q=>RC F h q)
def ZeS (P:Program) (l:List ResultVar) (F:Env) (Q:Value→Hp→Prop) (acc:List Value) (h:Hp):Value→Prop:=fun v=>M7 P l F Q (v :: acc) h
variable {l:List ResultVar} {Q:Value→Hp→Prop} {F:Env} {acc:List Value} {h:Hp} {t a:Nat} {v:Value} {K:Value→Prop}
@[go_sem] theorem Zdp:dx P l Q F h=M7 P l F Q [] h:=rfl
@[go_sem] theorem ZeT:M7 P [] F Q acc h=Q (RS acc.reverse) h:=rfl
@[go_sem] theorem ZeU:M7 P (.tmp t :: l) F Q acc h=M7 P l F Q (F t :: acc) h:=rfl
@[go_sem] theorem Zdq:M7 P (.cell a t :: l) F Q acc h=rvK (ta P t) (tn P t) (F a) h (ZeS P l F Q acc h):=rfl
@[go_sem] theorem ZeV:ZeS P l F Q acc h v=M7 P l F Q (v :: acc) h:=rfl
@[go_sem] theorem Zig {s:Option Bool} {n:Option Nat} {b:Addr}:rvK s n (.pointer (some b)) h K=uY (rvF s n b h) K:=rfl
@[go_sem] theorem Zdr:uY (some v) K=K v:=rfl
attribute [go_sem] List.reverse_cons List.reverse_nil
end
end Go.V
