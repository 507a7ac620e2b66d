/- Part W3. -/
import Derived.Test.YtdpjmhgbmhjniaaDoorV9
namespace Go.V
set_option linter.unusedVariables false
set_option linter.unusedSimpArgs false
def Yh {α:Type} (enc:α→List Value):List α→List Value
 | []=>[]
 | x :: l=>enc x++Yh enc l
theorem XU {α:Type} (enc:α→List Value) (l k:List α):Yh enc (l++k)=Yh enc l++Yh enc k:=by
 induction l with
 | nil=>rfl
 | cons x l ih=>simp[Yh,ih]
theorem Qv {α:Type} {enc:α→List Value} {n:Nat} (Xu:∀x,(enc x).length=n) (l:List α):(Yh enc l).length=l.length*n:=by
 induction l with
 | nil=>simp[Yh]
 | cons x l ih=>simp[Yh,ih,Xu,Nat.add_mul,Nat.add_comm]
theorem Ub {α:Type} (f:α→Value) (l:List α):Yh (fun x=>[f x]) l=l.map f:=by
 induction l with
 | nil=>rfl
 | cons x l ih=>simp[Yh,ih]
theorem fitAll_nil {P:Program} {h:Hp} {vs:List Value} (hf:fitAll P h [] vs):vs=[]:=by
 cases vs with
 | nil=>rfl
 | cons a l=>exact hf.elim
theorem fitAll_cons {P:Program} {h:Hp} {t:TypeId} {ts:List TypeId} {vs:List Value} (hf:fitAll P h (t :: ts) vs):∃v l,vs=v :: l∧(∃k,RA P h k t v)∧fitAll P h ts l:=by
 cases vs with
 | nil=>exact hf.elim
 | cons a l=>exact⟨a,l,rfl,hf.1,hf.2⟩
theorem Ot {P:Program} {h:Hp} {k:Nat} {t:TypeId} {v:Value} (ha:ta P t=some false) (hf:RA P h k t v):fit P h k t [v]:=by
 unfold RA at hf;rw[ha]at hf;exact hf
section
variable {P:Program} {T:World} {K:Value→Hp→Prop} {h:Hp}
end
def D5:Value→Value→Bool
 | .int _ a,.int _ b=>a == b
 | .bool a,.bool b=>a == b
 | _,_=>false
def leq:List Value→List Value→Bool
 | [],[]=>true
 | a :: l,b :: k=>D5 a b&&leq l k
 | _,_=>false
section
variable {P:Program} {h:Hp}
variable {K:Value→Hp→Prop}
end
section
variable {P:Program} {T:World} {F:Env} {h:Hp}
@[go_sem] theorem Mf {ops l:List Oper} {N:Env→Hp→Prop} {d:Option Tmp} {op:Op} {ty:TypeId} {b:Bool}:Tn P T ops N l F d op ty undef b h=Jf P T ops N l (Zl F d undef) h:=rfl
end
def cb (cs:List Value) (i:Nat):Bool:=match nth cs i with|some (.bool b)=>b|_=>false
def Ey (P:Program) (ts:List TypeId) (a n:Nat):Bool:=(List.range n).all fun j=>match nth ts (a+j) with|some t=>(match P.underlying t with|some .bool=>true|_=>false)|none=>false
theorem Zj.add {h h':Hp} (b:Zj h.size h h') (o:Obj):Zj h.size h (h'.push o):=b.trans (Zj.push b.size o)
end Go.V
