/- Part W13. -/
import Derived.Test.YtdpjmhgbmhjniaaDoorW12
namespace Go.V
set_option linter.unusedVariables false
section
variable {P:Program} {T:World}
def Mj (x:Option Value) (K:Value→Prop):Prop:=match x with|some v=>K v|none=>False
def Gf (s:Option Bool) (n:Option Nat) (p:Value) (h:Hp) (K:Value→Prop):Prop:=match p with|.pointer (some a)=>Mj (MU s n a h) K|_=>False
def UN (P:Program):List ResultVar→Env→(Value→Hp→Prop)→List Value→Hp→Prop
 | [],_,Q,acc,h=>Q (Jq acc.reverse) h
 | .tmp t :: l,F,Q,acc,h=>UN P l F Q (F t :: acc) h
 | .cell a t :: l,F,Q,acc,h=>Gf (ta P t) (tn P t) (F a) h (fun v=>UN P l F Q (v :: acc) h)
theorem T1 {F:Env} {Q:Value→Hp→Prop} {h:Hp}:∀(l:List ResultVar) (acc:List Value),UN P l F Q acc h→∃vs,Z2 P F h l=some vs∧Q (Jq (acc.reverse++vs)) h:=by
 intro l
 induction l with
 | nil=>intro acc H;exact⟨[],rfl,by rw[List.append_nil];exact H⟩
 | cons x l ih=>
  intro acc H
  cases x with
  | tmp t=>
   obtain⟨vs,h1,h2⟩:=ih _ H
   exact⟨F t :: vs,by simp only[Z2,h1,Option.map_some],by simpa using h2⟩
  | cell a t=>
   simp only[UN,Gf]at H
   cases hp:F a with
   | pointer p=>
    rw[hp]at H
    cases p with
    | none=>exact H.elim
    | some b=>
     simp only[Mj]at H
     cases hv:MU (ta P t) (tn P t) b h with
     | none=>rw[hv]at H;exact H.elim
     | some v=>
      rw[hv]at H
      obtain⟨vs,h1,h2⟩:=ih _ H
      refine⟨v :: vs,?_,by simpa using h2⟩
      simp only[Z2,h1,hp]
      rw[TZ (by rw[hv];rfl),hv]
      rfl
   | _=>rw[hp]at H;exact H.elim
def U8 (P:Program) (l:List ResultVar) (Q:Value→Hp→Prop):Env→Hp→Prop:=fun F h=>UN P l F Q [] h
theorem Xl {l:List ResultVar} {Q:Value→Hp→Prop} (F:Env) (h:Hp) (H:U8 P l Q F h):S9 P l Q F h:=by
 obtain⟨vs,h1,h2⟩:=T1 l [] H
 show Y0 P l F Q h
 unfold Y0
 rw[h1]
 simpa using h2
theorem Zf.Ou {f:FuncId} {fn:Func} {c:Code} {l:List ResultVar} {args:List Value} {h:Hp} {Q:Value→Hp→Prop} (hf:P.funcs[f]? = some fn) (hb:fn.body=some c)
  (hl:fn.results=l.toArray) (hn:Nat.ble args.length fn.ntmps=true) (ZN:codeOk fn.ntmps c=true)
  (H:vc P fn.ntmps T c (U8 P l Q) Vd (U8 P l Q) (JE args 0) h):Zf P T f args.toArray h Q:=by
 refine Zf.Sy hf hb hl hn ?_
 refine (ZG c _ _ _ _ _ ZN H).mono (fun F h q=>Xl F h q) (fun _ _ _ q=>q) (fun F h q=>Xl F h q)
theorem Zf.Ix {h:Hp} {f:FuncId} {fn:Func} {c:Code} {l:List ResultVar} (args:List Value) {Q:Value→Hp→Prop} (hf:P.funcs[f]? = some fn) (H:vc P fn.ntmps T c (U8 P l Q) Vd (U8 P l Q) (JE args 0) h)
  (hb:fn.body=some c:=by rfl) (hl:fn.results=l.toArray:=by rfl) (hn:Nat.ble args.length fn.ntmps=true:=by rfl) (ZN:codeOk fn.ntmps c=true:=by rfl):Zf P T f args.toArray h Q:=Zf.Ou hf hb hl hn ZN H
def Iy (P:Program) (l:List ResultVar) (F:Env) (Q:Value→Hp→Prop) (acc:List Value) (h:Hp):Value→Prop:=fun v=>UN P l F Q (v :: acc) h
variable {l:List ResultVar} {Q:Value→Hp→Prop} {F:Env} {acc:List Value} {h:Hp} {t a:Nat} {v:Value} {K:Value→Prop}
@[go_sem] theorem KE:U8 P l Q F h=UN P l F Q [] h:=rfl
@[go_sem] theorem Iz:UN P [] F Q acc h=Q (Jq acc.reverse) h:=rfl
@[go_sem] theorem KF:UN P (.cell a t :: l) F Q acc h=Gf (ta P t) (tn P t) (F a) h (Iy P l F Q acc h):=rfl
@[go_sem] theorem IA:Iy P l F Q acc h v=UN P l F Q (v :: acc) h:=rfl
@[go_sem] theorem Gg {s:Option Bool} {n:Option Nat} {b:Addr}:Gf s n (.pointer (some b)) h K=Mj (MU s n b h) K:=rfl
@[go_sem] theorem KG:Mj (some v) K=K v:=rfl
attribute [go_sem] List.reverse_cons List.reverse_nil
end
end Go.V
