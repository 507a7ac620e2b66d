/- V1: a small calculus of weakest preconditions on heaps (arrays of objects), over the model's own rules: what draws is 'for all', and a function's frame is a function of slots. -/
import Derived.Calls
import Derived.OrdersHeld
import Derived.Still
import Derived.Tactics
import Derived.Laws.Sem
import Derived.KernelRfl
import Derived.IntWalk
import Derived.Laws.Strings
import Derived.WalkKit
import Derived.ProofKit
import Derived.OpenShut
import Derived.SizedLaws
import Derived.JoinedCond
import Derived.Deep.CondSized
import Derived.Carry
namespace Go.V
theorem Zx {α:Type} (x:α):∃y,y=x:=⟨x,rfl⟩
abbrev Env:=Nat→Value
def upd (F:Env) (d:Nat) (v:Value):Env:=fun t=>if t=d then v else F t
def Z3 (F:Env):Option Nat→Value→Env
 | none,_=>F
 | some d,v=>upd F d v
def ev (F:Env):Operand→Value
 | .tmp t=>F t
 | .const v=>v
 | .global g=>.pointer (some ⟨g,0,none⟩)
 | .func f=>.func (.func f) #[] #[]
def IW:List Value→Nat→Env
 | [],_=>fun _=>undef
 | v :: l,k=>upd (IW l (k+1)) k v
def env (a:Act):Env:=fun t=>a.tmps.getD t undef
theorem Ey (a:Act):a.eval=ev (env a):=by
 funext x;cases x<;>rfl
theorem Ll (a:Act) (dst:Option Nat) (v:Value) (h:∀d,dst=some d→d<a.tmps.size):env (a.put dst v)=Z3 (env a) dst v:=by
 cases dst with
 | none=>rfl
 | some d=>
  funext t
  have hd:=h d rfl;simp only[env,Act.put,Z3,upd,Array.getD_eq_getD_getElem?,Array.getElem?_setIfInBounds];by_cases htd:d=t
  ·subst htd;simp[hd]
  ·rw[if_neg htd,if_neg (fun h=>htd h.symm)]
theorem PN (a:Act) (dst:Option Nat) (v:Value):(a.put dst v).tmps.size=a.tmps.size:=by
 cases dst<;>simp[Act.put]
abbrev Hp:=Array Obj
structure Vl (T:World) (w:World) (h:Hp):Prop where
 heap:w.heap=h
 tape:w.tape=T.tape
 os:w.os=T.os
 output:w.output=T.output
def hc (h:Hp) (a:Addr):Option Value:=
 match h[a.block]? with
 | some (.cells c _ _)=>if a.spot.isSome then none else c[a.off]?
 | _=>none
def U7 (h:Hp) (r:Nat):Option (TypeId × Nat):=
 match h[r]? with
 | some (.cells c elem _)=>some (elem,c.size)
 | _=>none
def lL (h:Hp) (a:Addr):Bool:=
 match h[a.block]? with
 | some (.cells _ _ (lo,hi))=>lo≤a.off&&a.off<hi
 | _=>false
def fM (h:Hp) (a:Addr) (v:Value):Hp:=
 h.modify a.block fun
  | .cells c elem frozen=>.cells (if a.spot.isSome then c else c.setIfInBounds a.off v) elem frozen
  | o=>o
def Tx (h:Hp) (a:Addr) (n:Nat):Hp:=
 if n=0 then h else
 h.modify a.block fun
  | .cells c elem (lo,hi)=>.cells c elem (if lo == hi then (a.off,a.off+n) else (min lo a.off,max hi (a.off+n)))
  | o=>o
def Lm:Obj→Bool
 | .cells .. => true
 | _=>false
def Z7:Value→Bool
 | .agg _|.tuple _=>false
 | _=>true
def hw {α:Type} (P:Program):Sem α→(α→Hp→Prop)→Hp→Prop
 | .pure a,Q,h=>Q a h
 | .load _ a k,Q,h=>∃v,hc h a=some v∧hw P (k v) Q h
 | .store _ a v k,Q,h=>Z7 v=true∧(∃u,hc h a=some u)∧lL h a=false∧hw P k Q (fM h a v)
 | .new o k,Q,h=>hw P (k h.size) Q (h.push o)
 | .shape r k,Q,h=>hw P (k (U7 h r)) Q h
 | .freeze a n k,Q,h=>hw P k Q (Tx h a n)
 | .frozen a k,Q,h=>hw P (k (lL h a)) Q h
 | .getObj r k,Q,h=>∃o,h[r]? = some o∧Lm o=false∧hw P (k o) Q h
 | .setObj r o k,Q,h=>(∃o',h[r]? = some o'∧Lm o'=false)∧hw P k Q (h.setIfInBounds r o)
 | .choose q k,Q,h=>if q.forced then hw P (k 0) Q h else ∀t,hw P (k (q.cut t)) Q h
 | .sys _ _,_,_=>False
 | .program k,Q,h=>hw P (k P) Q h
 | .mark _ k,Q,h=>hw P k Q h
 | .halt _,_,_=>False
theorem lP {α:Type} {P:Program} {T:World}:∀(s:Sem α) (Q:α→Hp→Prop) (h:Hp),hw P s Q h→∀w,Vl T w h →
  ∃a w' h',s.run P w=.ok a w'∧Vl T w' h'∧Q a h':=by
 intro s
 induction s with
 | pure a=>intro Q h H w hs;exact⟨a,w,h,rfl,hs,H⟩
 | load m a k ih=>
  intro Q h H w hs;obtain⟨v,hv,H⟩:=H;obtain⟨a',w',h',hr,r⟩:=ih v Q h H w hs;refine⟨a',w',h',?_,r⟩;have:w.cell? a=some v:=by rw[World.cell?,hs.heap];exact hv
  rw[Sem.run,this];exact hr
 | store m a v k ih=>
  intro Q h H w hs;obtain⟨h1,⟨u,h2⟩,h3,H⟩:=H;have TU:Vl T (w.setCell a v) (fM h a v):=⟨by simp only[World.setCell,fM,hs.heap];rfl,hs.tape,hs.os,hs.output⟩
  obtain⟨a',w',h',hr,r⟩:=ih Q _ H _ TU;refine⟨a',w',h',?_,r⟩;have e1:w.cell? a=some u:=by rw[World.cell?,hs.heap];exact h2
  have e2:w.frozen? a=false:=by rw[World.frozen?,hs.heap];exact h3
  cases v<;>first|(simp[Z7]at h1;done)|(simp only[Sem.run,e1,e2,Bool.false_eq_true,if_false];exact hr)
 | new o k ih=>
  intro Q h H w hs;have TU:Vl T { w with heap:=w.heap.push o } (h.push o):=⟨by simp only[hs.heap],hs.tape,hs.os,hs.output⟩
  have e:w.heap.size=h.size:=by rw[hs.heap]
  obtain⟨a',w',h',hr,r⟩:=ih h.size Q _ H _ TU;refine⟨a',w',h',?_,r⟩;rw[Sem.run,e];exact hr
 | shape r k ih=>
  intro Q h H w hs;obtain⟨a',w',h',hr,r'⟩:=ih _ Q h H w hs;refine⟨a',w',h',?_,r'⟩;have:w.shape? r=U7 h r:=by rw[World.shape?,hs.heap];rfl
  rw[Sem.run,this];exact hr
 | freeze a n k ih=>
  intro Q h H w hs;have TU:Vl T (w.freeze a n) (Tx h a n):=by
   unfold World.freeze Tx;split
   ·exact hs
   ·exact⟨by simp only[hs.heap];rfl,hs.tape,hs.os,hs.output⟩
  obtain⟨a',w',h',hr,r'⟩:=ih Q _ H _ TU;exact⟨a',w',h',by rw[Sem.run];exact hr,r'⟩
 | frozen a k ih=>
  intro Q h H w hs;obtain⟨a',w',h',hr,r'⟩:=ih _ Q h H w hs;refine⟨a',w',h',?_,r'⟩;have:w.frozen? a=lL h a:=by rw[World.frozen?,hs.heap];rfl
  rw[Sem.run,this];exact hr
 | getObj r k ih=>
  intro Q h H w hs;obtain⟨o,ho,hc,H⟩:=H;obtain⟨a',w',h',hr,r'⟩:=ih o Q h H w hs;refine⟨a',w',h',?_,r'⟩;have e:w.heap[r]? = some o:=by rw[hs.heap];exact ho
  simp only[Sem.run,e]
  cases o<;>first|(simp[Lm]at hc;done)|exact hr
 | setObj r o k ih=>
  intro Q h H w hs;obtain⟨⟨o',ho,hc⟩,H⟩:=H;have TU:Vl T { w with heap:=w.heap.setIfInBounds r o } (h.setIfInBounds r o):=⟨by simp only[hs.heap],hs.tape,hs.os,hs.output⟩
  obtain⟨a',w',h',hr,r'⟩:=ih Q _ H _ TU;refine⟨a',w',h',?_,r'⟩;have e:w.heap[r]? = some o':=by rw[hs.heap];exact ho
  simp only[Sem.run,e]
  cases o'<;>first|(simp[Lm]at hc;done)|exact hr
 | choose q k ih=>
  intro Q h H w hs;simp only[hw]at H;split at H
  ·rename_i hq;obtain⟨a',w',h',hr,r'⟩:=ih _ Q h H w hs;exact⟨a',w',h',by rw[Sem.run,if_pos hq];exact hr,r'⟩
  ·rename_i hq;have TU:Vl T { w with drawn:=w.drawn+1 } h:=⟨hs.heap,hs.tape,hs.os,hs.output⟩
   obtain⟨a',w',h',hr,r'⟩:=ih _ Q h (H (w.tape w.drawn q)) _ TU;exact⟨a',w',h',by rw[Sem.run,if_neg hq];exact hr,r'⟩
 | sys c k ih=>intro Q h H;exact H.elim
 | program k ih=>
  intro Q h H w hs;obtain⟨a',w',h',hr,r'⟩:=ih _ Q h H w hs;exact⟨a',w',h',by rw[Sem.run];exact hr,r'⟩
 | mark m k ih=>
  intro Q h H w hs;obtain⟨a',w',h',hr,r'⟩:=ih Q h H w hs;exact⟨a',w',h',by rw[Sem.run];exact hr,r'⟩
 | halt x=>intro Q h H;exact H.elim
theorem Zg {α β:Type} {P:Program} (s:Sem α) (f:α→Sem β) (Q:β→Hp→Prop):∀h,hw P (s >>= f) Q h=hw P s (fun a h'=>hw P (f a) Q h') h:=by
 show ∀h,hw P (s.bind f) Q h=_
 induction s with
 | pure a=>intro h;rfl
 | load m a k ih=>intro h;simp only[Sem.bind,hw,ih]
 | store m a v k ih=>intro h;simp only[Sem.bind,hw,ih]
 | new o k ih=>intro h;simp only[Sem.bind,hw,ih]
 | shape r k ih=>intro h;simp only[Sem.bind,hw,ih]
 | freeze a n k ih=>intro h;simp only[Sem.bind,hw,ih]
 | frozen a k ih=>intro h;simp only[Sem.bind,hw,ih]
 | getObj r k ih=>intro h;simp only[Sem.bind,hw,ih]
 | setObj r o k ih=>intro h;simp only[Sem.bind,hw,ih]
 | choose q k ih=>intro h;simp only[Sem.bind,hw,ih]
 | sys c k ih=>intro h;simp only[Sem.bind,hw]
 | program k ih=>intro h;simp only[Sem.bind,hw,ih]
 | mark m k ih=>intro h;simp only[Sem.bind,hw,ih]
 | halt x=>intro h;rfl
theorem cZ {α:Type} {P:Program} {Q Q':α→Hp→Prop} (hq:∀a h,Q a h→Q' a h):∀(s:Sem α) (h:Hp),hw P s Q h→hw P s Q' h:=by
 intro s
 induction s with
 | pure a=>intro h H;exact hq _ _ H
 | load m a k ih=>intro h H;obtain⟨v,hv,H⟩:=H;exact⟨v,hv,ih _ _ H⟩
 | store m a v k ih=>intro h H;obtain⟨h1,h2,h3,H⟩:=H;exact⟨h1,h2,h3,ih _ H⟩
 | new o k ih=>intro h H;exact ih _ _ H
 | shape r k ih=>intro h H;exact ih _ _ H
 | freeze a n k ih=>intro h H;exact ih _ H
 | frozen a k ih=>intro h H;exact ih _ _ H
 | getObj r k ih=>intro h H;obtain⟨o,h1,h2,H⟩:=H;exact⟨o,h1,h2,ih _ _ H⟩
 | setObj r o k ih=>intro h H;obtain⟨h1,H⟩:=H;exact⟨h1,ih _ H⟩
 | choose q k ih=>
  intro h H;simp only[hw]at H ⊢;split at H
  ·rename_i hf;rw[if_pos hf];exact ih _ _ H
  ·rename_i hf;rw[if_neg hf];exact fun t=>ih _ _ (H t)
 | sys c k ih=>intro h H;exact H
 | program k ih=>intro h H;exact ih _ _ H
 | mark m k ih=>intro h H;exact ih _ H
 | halt x=>intro h H;exact H
def Zc (P:Program) (T:World) (f:FuncId) (args:Array Value) (h:Hp) (Q:Value→Hp→Prop):Prop:=
 ∀w,Vl T w h→Calls P f args w fun e w'=>∃v h',e=.returned v∧Vl T w' h'∧Q v h'
theorem Zc.mono {P:Program} {T:World} {f:FuncId} {args:Array Value} {h:Hp} {Q Q':Value→Hp→Prop} (H:Zc P T f args h Q)
  (hq:∀v h',Q v h'→Q' v h'):Zc P T f args h Q':=
 fun w hs=>(H w hs).mono fun _ _ ⟨v,h',he,TU,q⟩=>⟨v,h',he,TU,hq _ _ q⟩
def Xy (P:Program) (T:World) (K:Value→Hp→Prop):Next→Hp→Prop
 | .value v,h=>K v h
 | .skip,h=>K undef h
 | .enter f args,h=>Zc P T f args h K
 | _,_=>False
def IX (P:Program) (T:World) (o:Oper) (K:Value→Hp→Prop) (F:Env) (h:Hp):Prop:=
 hw P (execOp (ev F) o) (Xy P T K) h
theorem LP {P:Program} {T:World} {K K':Value→Hp→Prop} (hk:∀v h,K v h→K' v h):∀(x:Next) (h:Hp),Xy P T K x h→Xy P T K' x h:=by
 intro x h H
 cases x<;>simp only[Xy]at H ⊢<;>first|exact hk _ _ H|exact H.mono hk
theorem PO {P:Program} {T:World} {o:Oper} {K K':Value→Hp→Prop} {F:Env} {h:Hp} (hk:∀v h,K v h→K' v h) (H:IX P T o K F h):IX P T o K' F h:=
 cZ (LP hk) _ _ H
theorem HH {P:Program} {T:World} {o:Oper} {K:Value→Hp→Prop} {F:Env} {h:Hp} (H:IX P T o K F h) {a:Act} {w:World} (hF:env a=F) (hs:Vl T w h)
  {next:Act→World→Prop} {Q:Exit→Act→World→Prop} (hk:∀v w' h',Vl T w' h'→K v h'→next (a.put o.dst v) w'):o.wp P a w next Q:=by
 obtain⟨x,w',h',hr,TU,hx⟩:=lP _ _ _ H w hs;unfold Oper.wp;rw[Ey,hF,hr]
 cases x<;>simp only[Xy]at hx
 case value v=>exact hk _ _ _ TU hx
 case skip=>exact hk _ _ _ TU hx
 case enter f args=>
  simp only[Oper.upon];exact (hx w' TU).mono fun e w'' ⟨v,Nj,he,Zk2,q⟩=>by subst he;exact hk _ _ _ Zk2 q
def Uk (ops:Array Oper) (F:Env) (j:Nat):Option Bool:=
 match (ops[j]?).bind (·.dst) with
 | some t=>match F t with
  | .bool b=>some b
  | _=>none
 | none=>none
def Z8 (ops:Array Oper) (o:Oper) (F:Env):Bool:=Region.wanted o (Uk ops F)
def lQ (n:Nat) (o:Oper):Bool:=match o.dst with|some d=>Nat.blt d n|none=>true
def Md (n:Nat) (ops:Array Oper):Bool:=ops.toList.all (lQ n)
theorem RP {n:Nat} {o:Oper} (h:lQ n o=true):∀d,o.dst=some d→d<n:=by
 intro d hd;unfold lQ at h;rw[hd]at h;exact Nat.blt_eq.mp h
theorem Me {n:Nat} {ops:Array Oper} (J2:Md n ops=true) (a:Act) (hn:a.tmps.size=n):yielded ops a.tmps=Uk ops (env a):=by
 funext j
 unfold yielded Uk
 cases hj:ops[j]? with
 | none=>rfl
 | some o=>
  simp only[Option.bind_some]
  cases hd:o.dst with
  | none=>rfl
  | some d=>
   have ZD:d<a.tmps.size:=by
    rw[hn];have hm:o∈ops.toList:=by
     have:=Array.mem_of_getElem? hj
     simpa using this
    exact RP (List.all_eq_true.1 J2 o hm) d hd
   simp only[Option.bind_some];rw[Array.getElem?_eq_getElem ZD];have:env a d=a.tmps[d]:=by simp[env,ZD]
   rw[this]
   cases a.tmps[d]<;>rfl
def fN (P:Program) (T:World) (ops:Array Oper) (N:Env→Hp→Prop):List Oper→Env→Hp→Prop
 | [],F,h=>N F h
 | o :: l,F,h=>
  if Z8 ops o F then IX P T o (fun v h'=>fN P T ops N l (Z3 F o.dst v) h') F h
  else fN P T ops N l (Z3 F o.dst undef) h
def tY (n:Nat) (T:World) (N:Env→Hp→Prop) (X:Nat→Env→Hp→Prop) (R:Env→Hp→Prop) (e:Exit) (a:Act) (w:World):Prop:=
 a.tmps.size=n∧a.defers=[]∧∃h,Vl T w h∧match e with
  | .normal=>N (env a) h
  | .exit j=>X j (env a) h
  | .ret=>R (env a) h
  | _=>False
def VS (P:Program) (n:Nat) (T:World) (c:Code) (N:Env→Hp→Prop) (X:Nat→Env→Hp→Prop) (R:Env→Hp→Prop) (F:Env) (h:Hp):Prop:=
 ∀a w,a.tmps.size=n→a.defers=[]→env a=F→Vl T w h→c.wp P (tY n T N X R) a w
section
variable {P:Program} {n:Nat} {T:World} {N:Env→Hp→Prop} {X:Nat→Env→Hp→Prop} {R:Env→Hp→Prop} {F:Env} {h:Hp}
theorem VS.mono {c:Code} {N':Env→Hp→Prop} {X':Nat→Env→Hp→Prop} {R':Env→Hp→Prop} (H:VS P n T c N X R F h)
  (hN:∀F h,N F h→N' F h) (hX:∀j F h,X j F h→X' j F h) (hR:∀F h,R F h→R' F h):VS P n T c N' X' R' F h:=by
 intro a w h1 h2 h3 h4;refine Code.wp_mono (fun e a w ⟨q1,q2,h,q3,q4⟩=>⟨q1,q2,h,q3,?_⟩) (H a w h1 h2 h3 h4)
 cases e<;>simp only at q4 ⊢<;>first|exact hN _ _ q4|exact hX _ _ _ q4|exact hR _ _ q4
theorem VS.seq {c d:Code} (H:VS P n T c (fun F h=>VS P n T d N X R F h) X R F h):VS P n T (.seq c d) N X R F h:=by
 intro a w h1 h2 h3 h4;refine wp_seq (Code.wp_mono (fun e a w ⟨q1,q2,h,q3,q4⟩=>?_) (H a w h1 h2 h3 h4))
 cases e with
 | normal=>exact q4 a w q1 q2 rfl q3
 | exit j=>exact⟨q1,q2,h,q3,q4⟩
 | ret=>exact⟨q1,q2,h,q3,q4⟩
 | _=>exact q4.elim
theorem VS.skip (H:N F h):VS P n T .skip N X R F h:=by
 intro a w h1 h2 h3 h4;exact wp_skip ⟨h1,h2,h,h4,by rw[h3];exact H⟩
theorem VS.ret (H:R F h):VS P n T .ret N X R F h:=by
 intro a w h1 h2 h3 h4;exact wp_ret ⟨h1,h2,h,h4,by rw[h3];exact H⟩
theorem VS.exit {j:Nat} (H:X j F h):VS P n T (.exit j) N X R F h:=by
 intro a w h1 h2 h3 h4;exact wp_exit ⟨h1,h2,h,h4,by rw[h3];exact H⟩
theorem VS.block {j:Nat} {c:Code} (H:VS P n T c N (fun i F h=>if i=j then N F h else X i F h) R F h):VS P n T (.block j c) N X R F h:=by
 intro a w h1 h2 h3 h4;refine wp_block (Code.wp_mono (fun e a w ⟨q1,q2,h,q3,q4⟩=>?_) (H a w h1 h2 h3 h4))
 cases e with
 | normal=>exact⟨q1,q2,h,q3,q4⟩
 | exit i=>
  simp only[Exit.inBlock];simp only at q4;split
  ·rename_i kO;rw[if_pos kO]at q4;exact⟨q1,q2,h,q3,q4⟩
  ·rename_i kO;rw[if_neg kO]at q4;exact⟨q1,q2,h,q3,q4⟩
 | ret=>exact⟨q1,q2,h,q3,q4⟩
 | _=>exact q4.elim
theorem VS.cond {c:Operand} {x y:Code} {b:Bool} (hc:ev F c=.bool b) (ht:b=true→VS P n T x N X R F h) (hf:b=false→VS P n T y N X R F h) :
  VS P n T (.cond c x y) N X R F h:=by
 intro a w h1 h2 h3 h4;refine wp_cond_split (t:=b) (by rw[Ey,h3];exact hc) (fun hb=>ht hb a w h1 h2 h3 h4) (fun hb=>hf hb a w h1 h2 h3 h4)
theorem VS.loop {c:Code} (I:Env→Hp→Prop) (μ:Env→Hp→Nat) (h0:I F h)
  (round:∀F h,I F h→VS P n T c (fun F' h'=>I F' h'∧μ F' h'<μ F h) X R F h):VS P n T (.loop c) N X R F h:=by
 intro a w h1 h2 h3 h4;refine wp_loop (fun a w=>a.tmps.size=n∧a.defers=[]∧Vl T w w.heap∧I (env a) w.heap) (fun a w=>μ (env a) w.heap)
  ⟨h1,h2,by rw[h4.heap];exact h4,by rw[h3,h4.heap];exact h0⟩ ?_
 intro a w ⟨q1,q2,q3,q4⟩;refine Code.wp_mono (fun e a' w' ⟨p1,p2,h',p3,p4⟩=>?_) (round (env a) w.heap q4 a w q1 q2 rfl q3)
 cases e with
 | normal=>
  have e:=p3.heap;subst e;exact⟨⟨p1,p2,p3,p4.1⟩,p4.2⟩
 | exit j=>exact⟨p1,p2,h',p3,p4⟩
 | ret=>exact⟨p1,p2,h',p3,p4⟩
 | _=>exact p4.elim
theorem U8 {ops:Array Oper} (J2:Md n ops=true):∀(l:List Oper) (F:Env) (h:Hp),(∀o∈l,o∈ops.toList)→fN P T ops N l F h →
  ∀a w,a.tmps.size=n→a.defers=[]→env a=F→Vl T w h→wpList P ops (tY n T N X R) l a w
 | [],F,h,_,H,a,w,h1,h2,h3,h4=>⟨h1,h2,h,h4,by rw[h3];exact H⟩
 | o :: l,F,h,hm,H,a,w,h1,h2,h3,h4=>by
  have hd:∀d,o.dst=some d→d<a.tmps.size:=by
   rw[h1];exact RP (List.all_eq_true.1 J2 o (hm o (by simp)))
  have Ln:∀o∈l,o∈ops.toList:=fun x hx=>hm x (by simp[hx]);have LQ:Region.wanted o (yielded ops a.tmps)=Z8 ops o F:=by rw[Me J2 a h1,h3];rfl
  unfold wpList;rw[LQ];unfold fN at H;split at H
  ·rename_i hw;rw[if_pos hw];refine .inl (HH H h3 h4 fun v w' h' TU hk=>?_);exact U8 J2 l _ h' Ln hk _ _ (by rw[PN,h1]) (by cases o.dst<;>exact h2) (by rw[Ll a _ _ hd,h3]) TU
  ·rename_i hw;rw[if_neg hw];exact U8 J2 l _ h Ln H _ _ (by rw[PN,h1]) (by cases o.dst<;>exact h2) (by rw[Ll a _ _ hd,h3]) h4
theorem VS.region {id:Nat} {ops:Array Oper} (J2:Md n ops=true) (H:fN P T ops N ops.toList F h):VS P n T (.region id ops false) N X R F h:=by
 intro a w h1 h2 h3 h4;exact wp_region_list (U8 J2 ops.toList F h (fun _ h=>h) H a w h1 h2 h3 h4)
def Qk (P:Program) (T:World) (ops:Array Oper) (i:Nat) (K:Env→Hp→Prop) (F:Env) (h:Hp):Prop:=
 match ops[i]? with
 | none=>K F h
 | some o=>if Z8 ops o F then IX P T o (fun v h'=>K (Z3 F o.dst v) h') F h else K (Z3 F o.dst undef) h
theorem XY {ops:Array Oper} {i:Nat} {K K':Env→Hp→Prop} (hk:∀F h,K F h→K' F h) {F:Env} {h:Hp} (H:Qk P T ops i K F h):Qk P T ops i K' F h:=by
 unfold Qk at *;split at H
 ·exact hk _ _ H
 ·split at H
  ·rename_i hw;rw[if_pos hw];exact PO (fun _ _ q=>hk _ _ q) H
  ·rename_i hw;rw[if_neg hw];exact hk _ _ H
def BG (P:Program) (T:World) (ops:Array Oper) (S:Hp→Prop) (N:Env→Hp→Prop):Nat→Array Bool→Env→Hp→Prop
 | 0,listed,F,h=>Region.ready .any ops listed=[]∧N F h
 | k+1,listed,F,h=>(Region.ready .any ops listed=[]→N F h) ∧
   ∀i∈Region.ready .any ops listed,Qk P T ops i (fun F' h'=>S h'∧BG P T ops S N k (listed.setIfInBounds i true) F' h') F h
theorem Jy {ops:Array Oper} {S:Hp→Prop} (J2:Md n ops=true):∀(k:Nat) (listed:Array Bool) (F:Env) (h:Hp),BG P T ops S N k listed F h →
  ∀a w,a.tmps.size=n→a.defers=[]→env a=F→Vl T w h→wpAny P .any ops (tY n T N X R) k listed a w
 | 0,listed,F,h,H,a,w,h1,h2,h3,h4=>⟨H.1,h1,h2,h,h4,by rw[h3];exact H.2⟩
 | k+1,listed,F,h,H,a,w,h1,h2,h3,h4=>by
  refine⟨fun h0=>⟨h1,h2,h,h4,by rw[h3];exact H.1 h0⟩,fun i hi=>?_⟩;have Hi:=H.2 i hi;unfold Qk at Hi;unfold wpOp
  cases ho:ops[i]? with
  | none=>rw[ho]at Hi;exact Jy J2 k _ F h Hi.2 a w h1 h2 h3 h4
  | some o=>
   rw[ho]at Hi;simp only at Hi ⊢;have hd:∀d,o.dst=some d→d<a.tmps.size:=by
    rw[h1];exact RP (List.all_eq_true.1 J2 o (by have:=Array.mem_of_getElem? ho;simpa using this))
   have LQ:Region.wanted o (yielded ops a.tmps)=Z8 ops o F:=by rw[Me J2 a h1,h3];rfl
   rw[LQ];split at Hi
   ·rename_i hw;rw[if_pos hw];refine .inl (HH Hi h3 h4 fun v w' h' TU hk=>?_);exact Jy J2 k _ _ h' hk.2 _ _ (by rw[PN,h1]) (by cases o.dst<;>exact h2) (by rw[Ll a _ _ hd,h3]) TU
   ·rename_i hw;rw[if_neg hw];exact Jy J2 k _ _ h Hi.2 _ _ (by rw[PN,h1]) (by cases o.dst<;>exact h2) (by rw[Ll a _ _ hd,h3]) h4
def QN (P:Program) (T:World) (ops:Array Oper) (S:Hp→Prop) (o:Oper) (v:Value) (F:Env):Prop:=
 (Z8 ops o F=true∧∀h,S h→IX P T o (fun v' h'=>v'=v∧h'=h) F h)∨(Z8 ops o F=false∧v=undef)
theorem tZ {F:Env} {dst:Option Nat} {v:Value} {x:Operand} (hx:∀d,dst=some d→x ≠ .tmp d):ev (Z3 F dst v) x=ev F x:=by
 cases dst with
 | none=>rfl
 | some d=>
  cases x with
  | tmp t=>
   have YA:t≠d:=fun e=>hx d rfl (by rw[e]);show (if t=d then v else F t)=F t;rw[if_neg YA]
  | _=>rfl
theorem Mf {ops:Array Oper} (o:Oper) (hs:∀cs b,o.op ≠ .select cs b) (F:Env) (dst:Option Nat) (v:Value) (h:∀d,dst=some d→d ∉ o.looksAt ops) :
  execOp (ev (Z3 F dst v)) o=execOp (ev F) o:=
 execOp_congr o hs fun x hx=>tZ fun d hd hxd=>h d hd (by
  subst hxd;exact List.mem_append_left _ (List.mem_filterMap.2 ⟨.tmp d,by simpa using hx,rfl⟩))
theorem PQ {ops:Array Oper} (o:Oper) (F:Env) (dst:Option Nat) (v:Value) (h:∀d,dst=some d→d ∉ o.looksAt ops) :
  Z8 ops o (Z3 F dst v)=Z8 ops o F:=by
 cases dst with
 | none=>rfl
 | some d=>
  unfold Z8 Region.wanted
  cases hg:o.guard with
  | none=>rfl
  | some gw=>
   obtain⟨g,want⟩:=gw;simp only;have hd:=h d rfl;unfold Oper.looksAt at hd;rw[hg]at hd;simp only[List.mem_append,not_or]at hd;have:Uk ops (Z3 F (some d) v) g=Uk ops F g:=by
    unfold Uk
    cases hb:(ops[g]?).bind (·.dst) with
    | none=>rfl
    | some t=>
     have YA:t≠d:=fun e=>hd.2 (by rw[hb,e];simp);show (match (if t=d then v else F t) with|.bool b=>some b|_=>none)=_;rw[if_neg YA]
   rw[this]
theorem HI (F:Env) {d d':Option Nat} (v v':Value) (h:∀x,d=some x→d'≠some x):Z3 (Z3 F d v) d' v'=Z3 (Z3 F d' v') d v:=by
 cases d with
 | none=>rfl
 | some x=>
  cases d' with
  | none=>rfl
  | some y=>
   have YA:y≠x:=fun e=>h x rfl (by rw[e])
   funext t
   simp only[Z3,upd];by_cases h1:t=y
   ·subst h1;rw[if_pos rfl,if_neg YA,if_pos rfl]
   ·rw[if_neg h1];by_cases h2:t=x
    ·rw[if_pos h2,if_pos h2]
    ·rw[if_neg h2,if_neg h2,if_neg h1]
theorem QN.put {ops:Array Oper} {S:Hp→Prop} {o:Oper} (hs:∀cs b,o.op ≠ .select cs b) {v:Value} {F:Env} (hy:QN P T ops S o v F) {dst:Option Nat} {u:Value}
  (h:∀d,dst=some d→d ∉ o.looksAt ops):QN P T ops S o v (Z3 F dst u):=by
 unfold QN IX at *;rw[PQ o F dst u h,Mf o hs F dst u h];exact hy
theorem QN.opI {ops:Array Oper} {S:Hp→Prop} {i:Nat} {o:Oper} {v:Value} {F:Env} {h:Hp} (hi:ops[i]? = some o) (hy:QN P T ops S o v F) (hS:S h)
  {K:Env→Hp→Prop} (H:K (Z3 F o.dst v) h):Qk P T ops i K F h:=by
 unfold Qk;rw[hi];rcases hy with⟨hw,hv⟩|⟨hw,rfl⟩
 ·simp only[hw,if_true];exact PO (fun v' h' ⟨e1,e2⟩=>by subst e1;subst e2;exact H) (hv h hS)
 ·simp only[hw,Bool.false_eq_true,if_false];exact H
theorem LS {ops:Array Oper} {S:Hp→Prop} {j:Nat} {oi oj:Oper} {v:Value} (hj:ops[j]? = some oj) (hap:oi.apart ops oj=true)
  (hsi:∀cs b,oi.op ≠ .select cs b) (hsj:∀cs b,oj.op ≠ .select cs b) {K:Env→Hp→Prop} {F:Env} {h:Hp} (hy:QN P T ops S oi v F)
  (H:Qk P T ops j K (Z3 F oi.dst v) h):Qk P T ops j (fun F' h'=>QN P T ops S oi v F'∧K (Z3 F' oi.dst v) h') F h:=by
 obtain⟨h1,h2,h3⟩:=Oper.apart_spec hap;unfold Qk at *;rw[hj]at *;simp only at *;rw[PQ oj F oi.dst v h1]at H;split at H
 ·rename_i hw;rw[if_pos hw];unfold IX at *;rw[Mf oj hsj F oi.dst v h1]at H;refine cZ (LP fun u h' q=>?_) _ _ H;exact⟨hy.put hsi h3,by rw[←HI F v u h2];exact q⟩
 ·rename_i hw;rw[if_neg hw];exact⟨hy.put hsi h3,by rw[←HI F v undef h2];exact H⟩
theorem LU {ops:Array Oper} {S:Hp→Prop} {i:Nat} {oi:Oper} {v:Value} (hi:ops[i]? = some oi) (Ez:∀(j:Nat) (o:Oper) cs b,ops[j]? = some o→o.op ≠ .select cs b) :
  ∀(k:Nat) (listed:Array Bool) (F:Env) (h:Hp),
   (∀j oj,ops[j]? = some oj→j≠i→listed.getD j true=false→(∀e∈oj.after,Region.binds .any e=true→e.on≠i)→oi.apart ops oj=true) →
   i∈Region.ready .any ops listed→QN P T ops S oi v F→S h →
   BG P T ops S N k (listed.setIfInBounds i true) (Z3 F oi.dst v) h→BG P T ops S N (k+1) listed F h:=by
 intro k
 induction k with
 | zero=>
  intro listed F h _ hr hy hS H;refine⟨fun h=>(by rw[h]at hr;cases hr),fun j hj=>?_⟩;by_cases WO:j=i
  ·subst WO;exact hy.opI hi hS ⟨hS,H⟩
  ·have:=ready_mono hj WO;rw[H.1]at this
   cases this
 | succ k ih=>
  intro listed F h Mg hr hy hS H;refine⟨fun h=>(by rw[h]at hr;cases hr),fun j hj=>?_⟩;by_cases WO:j=i
  ·subst WO;exact hy.opI hi hS ⟨hS,H⟩
  ·have h1:=H.2 j (ready_mono hj WO);obtain⟨EA,oj,fO,Xk⟩:=mem_ready.1 hj;have GW:∀e∈oj.after,Region.binds .any e=true→e.on≠i:=fun e he hb heq=>by
    have h1:=Xk e he hb;have h0:=(mem_ready.1 hr).1;rw[heq]at h1;rcases Nat.lt_or_ge i listed.size with h'|h'
    ·simp[h']at h0 h1;rw[h0]at h1;cases h1
    ·simp[Array.getElem?_eq_none h']at h1
   have h2:=LS fO (Mg j oj fO WO EA GW) (fun cs b=>Ez i oi cs b hi) (fun cs b=>Ez j oj cs b fO) hy h1;have LV:∀k ok,ops[k]? = some ok→k≠i→(listed.setIfInBounds j true).getD k true=false →
     (∀e∈ok.after,Region.binds .any e=true→e.on≠i)→oi.apart ops ok=true:=fun k ok hk kP yS lT=>by
    refine Mg k ok hk kP ?_ lT;by_cases da:j=k
    ·subst da;exact EA
    ·rw[getD_set_ne true da]at yS;exact yS
   refine XY (fun F' h' h3=>⟨h3.2.1,ih (listed.setIfInBounds j true) F' h' LV (ready_mono hr (Ne.symm WO)) h3.1 h3.2.1 ?_⟩) h2;rw[Array.setIfInBounds_comm _ _ WO];exact h3.2.2
def PS (P:Program) (T:World) (ops:Array Oper) (S:Hp→Prop) (N:Env→Hp→Prop):List (Nat × Bool × Oper)→Env→Hp→Prop
 | [],F,h=>N F h
 | (_,q,o) :: l,F,h=>
  if Z8 ops o F then
   if q then ∃v,(∀h',S h'→IX P T o (fun v' Nj=>v'=v∧Nj=h') F h')∧PS P T ops S N l (Z3 F o.dst v) h
   else IX P T o (fun v h'=>S h'∧PS P T ops S N l (Z3 F o.dst v) h') F h
  else PS P T ops S N l (Z3 F o.dst undef) h
def UF (ops:Array Oper) (l:List (Nat × Bool)):List (Nat × Bool × Oper):=l.map fun (i,q)=>(i,q,ops.getD i default)
def LW (ops:Array Oper):List (Nat × Bool)→Array Bool→Bool
 | [],listed=>(Region.ready .any ops listed).isEmpty
 | (i,q) :: l,listed=>
  (if q then (Region.ready .any ops listed).contains i&&Region.free .any ops listed i else (Region.ready .any ops listed == [i]))&&LW ops l (listed.setIfInBounds i true)
theorem Ql {ops:Array Oper} {S:Hp→Prop} (hs:Region.noSelect ops=true):∀(l:List (Nat × Bool)) (listed:Array Bool) (F:Env) (h:Hp),LW ops l listed=true→S h →
  PS P T ops S N (UF ops l) F h→BG P T ops S N l.length listed F h
 | [],listed,F,h,hB,_,H=>⟨by simpa [LW] using hB,H⟩
 | (i,q) :: l,listed,F,h,hB,hS,H=>by
  simp only[LW,Bool.and_eq_true]at hB;obtain⟨Ul,Sa⟩:=hB;have RQ:i∈Region.ready .any ops listed:=by
   cases q
   ·simp only[Bool.false_eq_true,if_false,beq_iff_eq]at Ul;rw[Ul];simp
   ·simp only[if_true,Bool.and_eq_true]at Ul;simpa using Ul.1
  obtain⟨_,o,ho,_⟩:=mem_ready.1 RQ;have hp:UF ops ((i,q) :: l)=(i,q,o) :: UF ops l:=by simp[UF,ho]
  rw[hp]at H;simp only[PS]at H
  cases q with
  | true=>
   simp only[if_true,Bool.and_eq_true]at Ul H;split at H
   ·rename_i hw;obtain⟨v,hv,H⟩:=H;exact LU ho (Region.noSelect_spec hs) l.length listed F h (Region.free_spec ho Ul.2) RQ (.inl ⟨hw,hv⟩) hS (Ql hs l _ _ _ Sa hS H)
   ·rename_i hw;exact LU ho (Region.noSelect_spec hs) l.length listed F h (Region.free_spec ho Ul.2) RQ (.inr ⟨by simpa using hw,rfl⟩) hS (Ql hs l _ _ _ Sa hS H)
  | false=>
   simp only[Bool.false_eq_true,if_false,beq_iff_eq]at Ul H;refine⟨fun h0=>(by rw[h0]at RQ;cases RQ),fun j hj=>?_⟩;rw[Ul]at hj;have hj:j=i:=by simpa using hj
   subst hj;unfold Qk;rw[ho];simp only;split at H
   ·rename_i hw;rw[if_pos hw];exact PO (fun v h' q=>⟨q.1,Ql hs l _ _ _ Sa q.1 q.2⟩) H
   ·rename_i hw;rw[if_neg hw];exact⟨hS,Ql hs l _ _ _ Sa hS H⟩
def VL (n:Nat) (ops:Array Oper) (l:List (Nat × Bool)):Bool:=
 Md n ops&&(Region.noSelect ops&&(LW ops l (Array.replicate ops.size false)&&Nat.beq l.length ops.size))
theorem VS.held {id:Nat} {ops:Array Oper} (S:Hp→Prop) (l:List (Nat × Bool)) (hm:P.follows .mixedOrders=true) (J2:VL n ops l=true) (hS:S h)
  (H:PS P T ops S N (UF ops l) F h):VS P n T (.region id ops true) N X R F h:=by
 intro a w h1 h2 h3 h4;simp only[VL,Bool.and_eq_true]at J2;obtain⟨k1,k2,k3,k4⟩:=J2;refine wp_region_any hm ?_;have hl:l.length=ops.size:=Nat.eq_of_beq_eq_true k4;rw[←hl];refine Jy k1 _ _ F h (Ql k2 l _ F h (by rw[hl];exact k3) hS H) a _ h1 h2 h3 ⟨h4.heap,h4.tape,h4.os,h4.output⟩
theorem VS.quiet {id:Nat} {ops:Array Oper} (hm:P.follows .mixedOrders=true) (J2:VL n ops ((List.range ops.size).map fun i=>(i,true))=true)
  (H:PS P T ops (fun h'=>h'=h) N (UF ops ((List.range ops.size).map fun i=>(i,true))) F h):VS P n T (.region id ops true) N X R F h:=
 VS.held (fun h'=>h'=h) _ hm J2 rfl H
def hr {α:Type} (P:Program):Sem α→Hp→Option α
 | .pure a,_=>some a
 | .load _ a k,h=>(hc h a).bind fun v=>hr P (k v) h
 | .shape r k,h=>hr P (k (U7 h r)) h
 | .frozen a k,h=>hr P (k (lL h a)) h
 | .program k,h=>hr P (k P) h
 | _,_=>none
theorem lU {α:Type} {P:Program} {T:World}:∀(s:Sem α) (h:Hp) (a:α),hr P s h=some a→∀w,Vl T w h→s.run P w=.ok a w:=by
 intro s
 induction s with
 | pure a=>intro h b H w hs;simp only[hr,Option.some.injEq]at H;rw[H];rfl
 | load m a k ih=>
  intro h b H w hs;simp only[hr]at H
  cases hv:hc h a with
  | none=>rw[hv]at H;cases H
  | some v=>
   rw[hv]at H;have:w.cell? a=some v:=by rw[World.cell?,hs.heap];exact hv
   rw[Sem.run,this];exact ih v h b H w hs
 | shape r k ih=>
  intro h b H w hs;have:w.shape? r=U7 h r:=by rw[World.shape?,hs.heap];rfl
  rw[Sem.run,this];exact ih _ h b H w hs
 | frozen a k ih=>
  intro h b H w hs;have:w.frozen? a=lL h a:=by rw[World.frozen?,hs.heap];rfl
  rw[Sem.run,this];exact ih _ h b H w hs
 | program k ih=>intro h b H w hs;rw[Sem.run];exact ih _ h b H w hs
 | _=>intro h b H;cases H
theorem JG {α β:Type} {P:Program} (s:Sem α) (f:α→Sem β):∀h,hr P (s >>= f) h=(hr P s h).bind fun a=>hr P (f a) h:=by
 show ∀h,hr P (s.bind f) h=_
 induction s with
 | load m a k ih=>intro h;simp only[Sem.bind,hr,ih];cases hc h a<;>rfl
 | shape r k ih=>intro h;simp only[Sem.bind,hr,ih]
 | frozen a k ih=>intro h;simp only[Sem.bind,hr,ih]
 | program k ih=>intro h;simp only[Sem.bind,hr,ih]
 | _=>intro h;rfl
def PT (P:Program) (t:TypeId) (v:Value) (h:Hp):Option Value:=
 match v with
 | .pointer (some a)=>hr P (loadVar t a) h
 | _=>none
def JH (P:Program) (F:Env) (h:Hp):List ResultVar→Option (List Value)
 | []=>some []
 | .tmp t :: l=>(JH P F h l).map (F t :: ·)
 | .cell a t :: l=>(PT P t (F a) h).bind fun v=>(JH P F h l).map (v :: ·)
def RS:List Value→Value
 | [v]=>v
 | l=>.tuple l.toArray
def LX (P:Program) (l:List ResultVar) (F:Env) (Q:Value→Hp→Prop) (h:Hp):Prop:=
 match JH P F h l with
 | some vs=>Q (RS vs) h
 | none=>False
def ua (F:Env):ResultVar→Sem Value
 | .tmp t=>pure (F t)
 | .cell a t=>do loadVar t (←asAddr (F a))
theorem fP {F:Env} {h:Hp}:∀(l:List ResultVar) (vs:List Value),JH P F h l=some vs→hr P (l.mapM (ua F)) h=some vs:=by
 intro l
 induction l with
 | nil=>intro vs H;simp only[JH,Option.some.injEq]at H;subst H;rfl
 | cons x l ih=>
  intro vs H;rw[List.mapM_cons,JG]
  cases x with
  | tmp t=>
   simp only[JH]at H
   cases hl:JH P F h l with
   | none=>rw[hl]at H;cases H
   | some us=>
    rw[hl]at H;simp only[Option.map_some,Option.some.injEq]at H;subst H;show (some (F t)).bind _=_;rw[Option.bind_some,JG,ih us hl];rfl
  | cell a t=>
   simp only[JH]at H
   cases hv:PT P t (F a) h with
   | none=>rw[hv]at H;cases H
   | some v=>
    rw[hv]at H
    cases hl:JH P F h l with
    | none=>rw[hl]at H;cases H
    | some us=>
     rw[hl]at H;simp only[Option.bind_some,Option.map_some,Option.some.injEq]at H;subst H;have e:hr P (ua F (.cell a t)) h=some v:=by
      show hr P (asAddr (F a) >>= fun b=>loadVar t b) h=some v;unfold PT at hv;split at hv
      ·rename_i b hb;rw[hb,JG];exact hv
      ·cases hv
     rw[e,Option.bind_some,JG,ih us hl];rfl
theorem EB {fn:Func} {l:List ResultVar} (hl:fn.results=l.toArray) {a:Act} {h:Hp} {vs:List Value} (H:JH P (env a) h l=some vs) {w:World} (hs:Vl T w h) :
  (results fn a.tmps).run P w=.ok (RS vs) w:=by
 have e:results fn a.tmps=(do let us ←fn.results.mapM (ua (env a));pure (if h:us.size=1 then us[0] else .tuple us)):=by
  have e1:(fun x:ResultVar=>match x with|.tmp t=>(pure (a.tmps.getD t undef):Sem Value)|.cell x t=>do loadVar t (←asAddr (a.tmps.getD x undef)))=ua (env a):=by
   funext x
   cases x<;>rfl
  rw[←e1];rfl
 rw[e,hl];refine lU (T:=T) _ h _ ?_ w hs;rw[JG,List.mapM_toArray,map_eq_pure_bind,JG,fP l vs H];show some _=_
 congr 1
 match vs with
 | []=>rfl
 | [v]=>rfl
 | v :: u :: l=>simp[RS]
end
theorem fQ (args:Array Value) (k:Nat):env { tmps:=args++Array.replicate k undef,defers:=[] } = IW args.toList 0:=by
 have key:∀(l:List Value) (j t:Nat),IW l j t=if j≤t then (l[t-j]?).getD undef else undef:=by
  intro l
  induction l with
  | nil=>intro j t;simp[IW]
  | cons v l ih=>
   intro j t;simp only[IW,upd];by_cases h:t=j
   ·subst h;simp
   ·rw[if_neg h,ih];by_cases h':j≤t
    ·have e:t-j=(t-(j+1))+1:=by omega
     rw[if_pos (by omega),if_pos h',e];simp
    ·rw[if_neg (by omega),if_neg h']
 funext t
 rw[key];simp only[env,Nat.zero_le,if_true,Nat.sub_zero,Array.getD_eq_getD_getElem?,Array.getElem?_append,Array.getElem?_toList];by_cases h:t<args.size
 ·rw[if_pos h]
 ·rw[if_neg h,Array.getElem?_eq_none (by omega:args.size≤t)];by_cases h2:t-args.size<k
  ·simp[h2]
  ·simp[h2]
theorem Zc.Lo {P:Program} {T:World} {f:FuncId} {fn:Func} {c:Code} {l:List ResultVar} {args:Array Value} {h:Hp} {Q:Value→Hp→Prop} (hf:P.funcs[f]? = some fn) (hb:fn.body=some c)
  (hl:fn.results=l.toArray) (hn:Nat.ble args.size fn.ntmps=true)
  (H:VS P fn.ntmps T c (fun F h'=>LX P l F Q h') (fun _ _ _=>False) (fun F h'=>LX P l F Q h') (IW args.toList 0) h) :
  Zc P T f args h Q:=by
 intro w hs;refine calls_of_wp hf hb (Code.wp_mono (fun e a w hp=>?_) (H _ w ?_ rfl (fQ _ _) hs))
 ·obtain⟨q1,q2,h',q3,q4⟩:=hp;have key:LX P l (env a) Q h'→∃v,(results fn a.tmps).run P w=.ok v w∧∃v' Nj,Ending.returned v=.returned v'∧Vl T w Nj∧Q v' Nj:=by
   intro hr;unfold LX at hr;split at hr
   ·rename_i vs ub;exact⟨_,EB hl ub q3,_,h',rfl,q3,hr⟩
   ·exact hr.elim
  cases e with
  | normal=>exact⟨q2,key q4⟩
  | ret=>exact⟨q2,key q4⟩
  | _=>exact q4.elim
 ·have:=Nat.le_of_ble_eq_true hn;simp only[Array.size_append,Array.size_replicate];omega
set_option linter.unusedSimpArgs false
set_option linter.unusedVariables false
def tz (P:Program) (t:TypeId):Option (List Value):=((P.info? t).bind (·.zero)).map fun v=>v.cells.toList
def tn (P:Program) (t:TypeId):Option Nat:=(P.info? t).map (·.size)
def tb (P:Program) (t:TypeId):Option Nat:=(P.info? t).map (·.bytes)
def ta (P:Program) (t:TypeId):Option Bool:=(P.underlying t).map fun|.struct _=>true|.array _ _=>true|_=>false
def tf (P:Program) (t:TypeId) (i:Nat):Option Nat:=
 match P.underlying t with
 | some (.struct fs)=>(fs[i]?).bind fun f=>match tn P f.type with
  | some (_+1)=>some f.offset
  | _=>none
 | _=>none
def YF (P:Program) (t:TypeId):Option (Nat × TypeId):=match P.underlying t with|some (.array n e)=>some (n,e)|_=>none
def JI (P:Program) (t:TypeId):Option TypeId:=match P.underlying t with|some (.slice e)=>some e|_=>none
def Rk (P:Program) (t:TypeId):Option (List (Nat × Nat)):=match P.underlying t with|some (.struct fs)=>fs.toList.mapM (fun f=>(tn P f.type).map fun n=>(f.offset,n))|_=>none
def tfl (P:Program) (t:TypeId) (i:Nat):Option (Nat × TypeId):=match P.underlying t with|some (.struct fs)=>(fs[i]?).map fun f=>(f.offset,f.type)|_=>none
def Um (P:Program) (t:TypeId):Bool:=match P.underlying t with|some .string=>true|_=>false
def IY (P:Program) (t:TypeId):Option IntKind:=match P.underlying t with|some (.int k)=>some k|_=>none
def goes (P:Program) (f:FuncId):Bool:=match P.funcs[f]? with|some fn=>!(fn.name == "runtime.NumGoroutine")&&fn.body.isSome|none=>false
def cl:Value→List Value
 | .agg cs=>cs.toList
 | v=>[v]
theorem PU (v:Value):(cl v).toArray=v.cells:=by cases v<;>rfl
section
variable (P:Program) (T:World)
def HJ (c a b:Value) (K:Value→Hp→Prop) (h:Hp):Prop:=
 match c with|.bool t=>K (if t then a else b) h|_=>False
def lV (z:Option (List Value)) (t:TypeId) (K:Value→Hp→Prop) (h:Hp):Prop:=
 match z with|some l=>K (.pointer (some ⟨h.size,0,none⟩)) (h.push (.cells l.toArray t))|none=>False
def rd (h:Hp) (a:Addr) (n:Nat):Option (List Value):=
 match h[a.block]? with
 | some (.cells c _ _)=>if a.spot=none∧a.off+n≤c.size then some ((c.toList.drop a.off).take n) else none
 | _=>none
def MZ (x:Option Value) (K:Value→Hp→Prop) (h:Hp):Prop:=match x with|some v=>K v h|none=>False
def LY (x:Option (List Value)) (K:Value→Hp→Prop) (h:Hp):Prop:=match x with|some l=>K (.agg l.toArray) h|none=>False
def PV (s:Option Bool) (n:Option Nat) (p:Value) (K:Value→Hp→Prop) (h:Hp):Prop:=
 match p with
 | .pointer (some a)=>match s,n with
  | some false,_=>MZ (hc h a) K h
  | some true,some n=>LY (rd h a n) K h
  | _,_=>False
 | _=>False
def Yw:List Value→Nat→List Value→List Value
 | l,_,[]=>l
 | [],_,_ :: _=>[]
 | _ :: l,0,v :: vs=>v :: Yw l 0 vs
 | x :: l,n+1,v :: vs=>x :: Yw l n (v :: vs)
def wr (h:Hp) (a:Addr) (vs:List Value):Option Hp:=
 match h[a.block]? with
 | some (.cells c e (lo,hi))=>if a.spot=none∧a.off+vs.length≤c.size∧hi≤lo∧vs.all Z7=true then some (h.setIfInBounds a.block (.cells (Yw c.toList a.off vs).toArray e (lo,hi))) else none
 | _=>none
def JJ (h:Hp) (a:Addr) (v:Value):Option Hp:=
 match h[a.block]? with
 | some (.cells c e (lo,hi))=>if a.spot=none∧a.off<c.size∧hi≤lo∧Z7 v=true then some (h.setIfInBounds a.block (.cells (c.setIfInBounds a.off v) e (lo,hi))) else none
 | _=>none
def db (x:Option Hp) (K:Value→Hp→Prop):Prop:=match x with|some h'=>K undef h'|none=>False
def UG (n:Option Nat) (p v:Value) (K:Value→Hp→Prop) (h:Hp):Prop:=
 match p,n with
 | .pointer (some a),some n=>
  if n=(cl v).length then
   match v with
   | .agg cs=>db (wr h a cs.toList) K
   | v=>db (JJ h a v) K
  else False
 | _,_=>False
def RT (f:Option Nat) (p:Value) (K:Value→Hp→Prop) (h:Hp):Prop:=
 match f,p with
 | some o,.pointer (some a)=>K (.pointer (some (a.add o))) h
 | _,_=>False
def Xa (op:BinOp) (t:TypeId) (x y:Operand) (a b:Value) (K:Value→Hp→Prop) (h:Hp):Prop:=
 hw P (do eqGuard op t x y a b;binOp op t a b) K h
def vUn (op:UnOp) (a:Value) (K:Value→Hp→Prop) (h:Hp):Prop:=hw P (Op.unary op a) K h
def PW (src dst:TypeId) (a:Value) (K:Value→Hp→Prop) (h:Hp):Prop:=hw P (convert src dst a) K h
def yU (arr:Option (Nat × TypeId)) (sl:Option TypeId) (n:TypeId→Option Nat) (p i:Value) (K:Value→Hp→Prop) (h:Hp):Prop:=
 match i with
 | .int _ i=>(match arr,sl,p with
  | some (len,e),none,.pointer (some a)=>(match n e with
   | some n=>if 0≤i∧i<(len:Int) then K (.pointer (some (a.add (i.toNat*n)))) h else False
   | none=>False)
  | none,some e,.slice (some a) len _=>(match n e with
   | some n=>if 0≤i∧i<(len:Int) then K (.pointer (some (a.add (i.toNat*n)))) h else False
   | none=>False)
  | _,_,_=>False)
 | _=>False
def Un (v:Value) (i:Nat) (K:Value→Hp→Prop) (h:Hp):Prop:=
 match v with|.tuple vs=>MZ (vs[i]?) K h|_=>False
def BH (v:Value) (K:Value→Hp→Prop) (h:Hp):Prop:=
 match v with|.pointer (some a)=>K (.pointer (some a)) h|.func (.func f) x y=>K (.func (.func f) x y) h|_=>False
def LZ (f:Value) (args:List Value) (K:Value→Hp→Prop) (h:Hp):Prop:=
 match f with
 | .func (.func f) first captured=>if goes P f=true then Zc P T f (first.toList++args++captured.toList).toArray h K
  else hw P (callFunc f (first.toList++args++captured.toList).toArray) (Xy P T K) h
 | _=>False
def T9 (b:Builtin) (ts:Array TypeId) (ty:TypeId) (cs:Array Bool) (args:List Value) (K:Value→Hp→Prop) (h:Hp):Prop:=
 hw P (builtin b ts ty cs args.toArray) (Xy P T K) h
def fR (F:Env):List Operand→List Value
 | []=>[]
 | x :: l=>ev F x :: fR F l
theorem GX (F:Env) (l:List Operand):fR F l=l.map (ev F):=by induction l with|nil=>rfl|cons x l ih=>simp[fR,ih]
def nth {α:Type}:List α→Nat→Option α
 | [],_=>none
 | x :: _,0=>some x
 | _ :: l,n+1=>nth l n
def PX (n:Nat) (i:Nat):Option (Nat × Nat):=some (i*n,n)
def Uo (place:Nat→Option (Nat × Nat)):List Value→List (Nat × Value)→Option (List Value)
 | cs,[]=>some cs
 | cs,(i,v) :: l=>match place i with
  | some (o,s)=>if (cl v).length=s∧o+s≤cs.length then Uo place (Yw cs o (cl v)) l else none
  | none=>none
def BI (F:Env):List (Nat × Operand)→List (Nat × Value)
 | []=>[]
 | (i,x) :: l=>(i,ev F x) :: BI F l
def Lp (n:Option Nat) (z:List Value) (parts:List (Nat × Value)) (K:Value→Hp→Prop) (h:Hp):Prop:=
 match n with|some n=>LY (Uo (PX n) z parts) K h|none=>False
def RU (z:Option (List Value)) (pl:Option (List (Nat × Nat))) (arr:Option (Nat × TypeId)) (n:TypeId→Option Nat) (parts:List (Nat × Value)) (K:Value→Hp→Prop) (h:Hp):Prop:=
 match z,pl,arr with
 | some z,some pl,none=>LY (Uo (nth pl) z parts) K h
 | some z,none,some (_,e)=>Lp (n e) z parts K h
 | _,_,_=>False
def X2:Nat→List Value→List Value
 | 0,_=>[]
 | n+1,z=>z++X2 n z
def BJ:Nat→List (Nat × Value)→Option (List Value)
 | _,[]=>some []
 | k,(i,v) :: l=>if i=k∧Z7 v=true then (BJ (k+1) l).map (v :: ·) else none
def dd (e:TypeId) (len:Nat) (x:Option (List Value)) (K:Value→Hp→Prop) (h:Hp):Prop:=
 match x with|some l=>K (.slice (some ⟨h.size,0,none⟩) len len) (h.push (.cells l.toArray e))|none=>False
def Lq (n len:Nat) (z:List Value) (parts:List (Nat × Value)):Option (List Value):=
 if n=1∧parts.length=len then BJ 0 parts else Uo (PX n) (X2 len z) parts
def SO (e:TypeId) (n:Option Nat) (z:Option (List Value)) (len:Nat) (parts:List (Nat × Value)) (K:Value→Hp→Prop) (h:Hp):Prop:=
 match n,z with
 | some n,some z=>if z.length=n∧len*n≤16777216 then dd e len (Lq n len z parts) K h else False
 | _,_=>False
def PY (e:Option TypeId) (n:TypeId→Option Nat) (z:TypeId→Option (List Value)) (len:Nat) (parts:List (Nat × Value)) (K:Value→Hp→Prop) (h:Hp):Prop:=
 match e with
 | some e=>SO e (n e) (z e) len parts K h
 | none=>False
def Mh (a:Option Bool) (n:Option Nat) (cs:List Value) (o:Nat) (K:Value→Hp→Prop) (h:Hp):Prop:=
 match a,n with
 | some true,some n=>K (.agg ((cs.drop o).take n).toArray) h
 | some false,_=>MZ (nth cs o) K h
 | _,_=>False
def lW (f:Option (Nat × TypeId)) (a:TypeId→Option Bool) (n:TypeId→Option Nat) (x:Value) (K:Value→Hp→Prop) (h:Hp):Prop:=
 match f,x with
 | some (o,t),.agg cs=>Mh (a t) (n t) cs.toList o K h
 | _,_=>False
def df (m:Option Nat) (a:Option Bool) (len:Nat) (cs:List Value) (i:Int) (K:Value→Hp→Prop) (h:Hp):Prop:=
 match m with|some m=>if 0≤i∧i<(len:Int) then Mh a (some m) cs (i.toNat*m) K h else False|none=>False
def fS (arr:Option (Nat × TypeId)) (str:Bool) (a:TypeId→Option Bool) (n:TypeId→Option Nat) (x i:Value) (K:Value→Hp→Prop) (h:Hp):Prop:=
 match i with
 | .int _ i=>(match arr,str,x with
  | some (len,e),false,.agg cs=>df (n e) (a e) len cs.toList i K h
  | none,true,.string s=>if 0≤i∧i<(s.size:Int) then K (.int .u8 ((s.data.toList.getD i.toNat 0).toNat:Nat)) h else False
  | _,_,_=>False)
 | _=>False
def sb (x:Option Value) (d y:Nat):Option Nat:=
 match x with
 | none=>some d
 | some (.int _ i)=>if 0≤i∧i≤(y:Int) then some i.toNat else none
 | _=>none
def dg (F:Env):Option Operand→Option Value
 | none=>none
 | some x=>some (ev F x)
def TV (n:Option Nat) (a:Option Addr) (len cap:Nat) (lo hi:Option Value) (K:Value→Hp→Prop) (h:Hp):Prop:=
 match n,sb hi len cap with
 | some n,some b=>(match sb lo 0 b with
  | some l=>K (.slice (if cap=l then a else a.map (·.add (l*n))) (b-l) (cap-l)) h
  | none=>False)
 | _,_=>False
def IZ (arr:Option (Nat × TypeId)) (sl:Option TypeId) (str:Bool) (n:TypeId→Option Nat) (x:Value) (lo hi mx:Option Value) (K:Value→Hp→Prop) (h:Hp):Prop:=
 match mx,x,arr,sl,str with
 | some mv,.slice a len cap,none,some e,_=>(match hi,sb (some mv) 0 cap with
  | some hv,some m=>TV (n e) a len m lo (some hv) K h
  | _,_=>False)
 | none,.slice a len cap,none,some e,_=>TV (n e) a len cap lo hi K h
 | none,.pointer (some a),some (len,e),none,_=>TV (n e) (some a) len len lo hi K h
 | none,.string s,none,none,true=>(match sb hi s.size s.size with
  | some b=>(match sb lo 0 b with|some l=>K (.string (s.extract l b)) h|none=>False)
  | none=>False)
 | _,_,_,_,_=>False
def uc (e:TypeId) (n:Option Nat) (by':Option Nat) (z:Option (List Value)) (l c:Int) (K:Value→Hp→Prop) (h:Hp):Prop:=
 match n,by',z with
 | some n,some bytes,some z=>if z.length=n∧0≤l∧l≤c∧c≤9223372036854775807∧(bytes:Int)*c≤281474976710656 then K (.slice (some ⟨h.size,0,none⟩) l.toNat c.toNat) (h.push (.cells (X2 c.toNat z).toArray e)) else False
 | _,_,_=>False
def vMk (e:Option TypeId) (n by':TypeId→Option Nat) (z:TypeId→Option (List Value)) (l c:Value) (K:Value→Hp→Prop) (h:Hp):Prop:=
 match e,l,c with
 | some e,.int _ l,.int _ c=>uc e (n e) (by' e) (z e) l c K h
 | _,_,_=>False
def WQ (op:Op) (ty:TypeId) (K:Value→Hp→Prop) (F:Env) (h:Hp):Prop:=
 match op with
 | .move x|.assign x=>K (ev F x) h
 | .pick c a b=>HJ (ev F c) (ev F a) (ev F b) K h
 | .alloc e=>lV (tz P e) e K h
 | .box e x=>lV (some (cl (ev F x))) e K h
 | .load t a=>PV (ta P t) (tn P t) (ev F a) K h
 | .store t a x=>UG (tn P t) (ev F a) (ev F x) K h
 | .fieldAddr t x i=>RT (tf P t i) (ev F x) K h
 | .indexAddr t x i=>yU (YF P t) (JI P t) (tn P) (ev F x) (ev F i) K h
 | .nilCheck x=>BH (ev F x) K h
 | .binOp op t x y _=>Xa P op t x y (ev F x) (ev F y) K h
 | .unOp op _ x=>vUn P op (ev F x) K h
 | .convert s d x=>PW P s d (ev F x) K h
 | .extract x i=>Un (ev F x) i K h
 | .makeFunc fn first captured=>K (.func fn (fR F first.toList).toArray (fR F captured.toList).toArray) h
 | .call ⟨.value f,args,_⟩=>LZ P T (ev F f) (fR F args.toList) K h
 | .call ⟨.builtin b,args,ts⟩=>T9 P T b ts ty (args.map fun|.const _=>true|_=>false) (fR F args.toList) K h
 | .build t parts=>RU (tz P t) (Rk P t) (YF P t) (tn P) (BI F parts.toList) K h
 | .buildSlice t len parts=>PY (JI P t) (tn P) (tz P) len (BI F parts.toList) K h
 | .field t x i=>lW (tfl P t i) (ta P) (tn P) (ev F x) K h
 | .index t x i=>fS (YF P t) (Um P t) (ta P) (tn P) (ev F x) (ev F i) K h
 | .slice t x lo hi mx=>IZ (YF P t) (JI P t) (Um P t) (tn P) (ev F x) (dg F lo) (dg F hi) (dg F mx) K h
 | .makeSlice t l c=>vMk (JI P t) (tn P) (tb P) (tz P) (ev F l) (ev F c) K h
 | op=>IX P T ⟨none,op,ty, "", #[],none⟩ K F h
end
section
variable {P:Program} {T:World} {K:Value→Hp→Prop} {F:Env} {h:Hp} {ty:TypeId}
theorem BK {Q:Program→Hp→Prop}:hw P program Q h=Q P h:=rfl
theorem Zw {α:Type} {Q:α→Hp→Prop} (a:α):hw P (pure a) Q h=Q a h:=rfl
theorem Xh {t:TypeId} {d:TypeInfo} (hd:P.info? t=some d) {Q:TypeInfo→Hp→Prop}:hw P (typeInfo t) Q h=Q d h:=by
 simp only[typeInfo];rw[Zg];simp only[program,hw];rw[hd];rfl
theorem Zu {t:TypeId} {d:TypeDesc} (hd:P.underlying t=some d) {Q:TypeDesc→Hp→Prop}:hw P (underlying t) Q h=Q d h:=by
 simp only[underlying];rw[Zg];simp only[program,hw];rw[hd];rfl
theorem run_sizeOf {t:TypeId} {n:Nat} (hn:tn P t=some n) {Q:Nat→Hp→Prop}:hw P (sizeOf t) Q h=Q n h:=by
 unfold tn at hn
 cases hi:P.info? t with
 | none=>rw[hi]at hn;cases hn
 | some i=>
  rw[hi]at hn;simp only[Option.map_some,Option.some.injEq]at hn;subst hn;unfold sizeOf;rw[Zg,Xh hi];rfl
theorem U0 {t:TypeId} {b:Bool} (hb:ta P t=some b) {Q:Bool→Hp→Prop}:hw P (isAgg t) Q h=Q b h:=by
 unfold ta at hb
 cases hi:P.underlying t with
 | none=>rw[hi]at hb;cases hb
 | some d=>
  rw[hi]at hb;simp only[Option.map_some,Option.some.injEq]at hb;subst hb;unfold isAgg;rw[Zg,Zu hi]
  cases d<;>rfl
theorem Y4 (b o n:Nat):Addr.add ⟨b,o,none⟩ n=⟨b,o+n,none⟩:=by
 unfold Addr.add;split
 ·rename_i h;subst h;rfl
 ·rfl
theorem SP (a:Addr) (n:Nat) (ha:a.spot=none):a.add n=⟨a.block,a.off+n,none⟩:=by
 obtain⟨b,o,s⟩:=a;simp only at ha;subst ha;exact Y4 b o n
theorem run_loadCells (a:Addr) (c:List Value) {Q:Array Value→Hp→Prop}:∀(n i:Nat) (acc:Array Value),
  (∀j,j<n→hc h (a.add (i+j))=some (c.getD j undef))→n=c.length→Q (acc++c.toArray) h→hw P (loadCellsFrom a i n acc) Q h:=by
 induction c with
 | nil=>intro n i acc _ hn H;subst hn;simpa [loadCellsFrom,pure,hw] using H
 | cons v c ih=>
  intro n i acc hj hn H;subst hn;show hw P (load (a.add i) >>= fun v=>loadCellsFrom a (i+1) c.length (acc.push v)) Q h;rw[Zg];refine⟨v,by simpa using hj 0 (by simp),?_⟩;refine ih _ (i+1) _ (fun j BL=>?_) rfl ?_
  ·have:=hj (j+1) (by simp;omega);have e:i+(j+1)=i+1+j:=by omega
   rw[e]at this
   simpa using this
  ·simpa using H
theorem BM {t:TypeId} {v:Value} (H:PV (ta P t) (tn P t) v K h):hw P (Instr.loadAt t v) K h:=by
 unfold PV at H;split at H
 ·rename_i a;unfold Instr.loadAt;rw[Zg];show hw P (loadVar t a) K h;unfold loadVar;rw[Zg];split at H
  ·rename_i hs;rw[U0 hs];unfold MZ at H;split at H
   ·rename_i v hv;exact⟨v,hv,H⟩
   ·exact H.elim
  ·rename_i n hs hn;rw[U0 hs];simp only[if_true];rw[Zg,run_sizeOf hn,Zg];unfold LY at H;split at H
   ·rename_i l hl;unfold rd at hl;split at hl
    ·rename_i c e fr hb;split at hl
     ·rename_i PZ;obtain⟨h1,h2⟩:=PZ;simp only[Option.some.injEq]at hl;subst hl;have hlen:((c.toList.drop a.off).take n).length=n:=by simp;omega
      refine run_loadCells a _ n 0 #[] (fun j hj=>?_) hlen.symm (by simpa [Zw] using H);rw[SP a _ h1];unfold hc;rw[hb];simp only[Option.isSome_none,Bool.false_eq_true,if_false];rw[List.getD_eq_getElem?_getD,List.getElem?_take,if_pos hj,List.getElem?_drop];have e:a.off+(0+j)=a.off+j:=by omega
      rw[e];simp;rw[Array.getElem?_eq_getElem (by omega)];rfl
     ·cases hl
    ·cases hl
   ·exact H.elim
  ·exact H.elim
 ·exact H.elim
theorem run_store {a:Addr} {v:Value} {Q:Unit→Hp→Prop}:hw P (store a v) Q h=(Z7 v=true∧(∃u,hc h a=some u)∧lL h a=false∧Q () (fM h a v)):=rfl
theorem ud {a:Addr} {c:Array Value} {e:TypeId} {fr:Nat × Nat} (hb:h[a.block]? = some (.cells c e fr)) (hs:a.spot=none) (v:Value) :
  fM h a v=h.setIfInBounds a.block (.cells (c.setIfInBounds a.off v) e fr):=by
 obtain⟨ZD,BN⟩:=Array.getElem?_eq_some_iff.1 hb;unfold fM;apply Array.ext_getElem?;intro i;rw[Array.getElem?_modify,Array.getElem?_setIfInBounds];by_cases hi:a.block=i
 ·subst hi;simp[BN,hs,ZD]
 ·simp[hi]
theorem VM (l:List Value) (n:Nat) (v:Value) (vs:List Value):Yw l n (v :: vs)=Yw (l.set n v) (n+1) vs:=by
 induction l generalizing n with
 | nil=>cases vs<;>simp[Yw]
 | cons x l ih=>
  cases n with
  | zero=>
   simp only[Yw,List.set_cons_zero]
   cases vs with
   | nil=>simp[Yw]
   | cons u us=>simp[Yw]
  | succ n=>
   simp only[Yw,List.set_cons_succ];rw[ih]
   cases vs with
   | nil=>simp[Yw]
   | cons u us=>simp[Yw]
theorem Yk {a:Addr} {e:TypeId} {lo hi:Nat} {Q:Unit→Hp→Prop} (hs:a.spot=none) (Zk3:hi≤lo):∀(vs:List Value) (i:Nat) (h:Hp) (c:Array Value),
  h[a.block]? = some (.cells c e (lo,hi))→a.off+i+vs.length≤c.size→vs.all Z7=true →
  Q () (h.setIfInBounds a.block (.cells (Yw c.toList (a.off+i) vs).toArray e (lo,hi)))→hw P (storeCells a vs i) Q h
 | [],i,h,c,hb,_,_,H=>by
  have e:h.setIfInBounds a.block (.cells (Yw c.toList (a.off+i) []).toArray e (lo,hi))=h:=by
   have ZD:=(Array.getElem?_eq_some_iff.1 hb).1;apply Array.ext_getElem?;intro j;rw[Array.getElem?_setIfInBounds];by_cases hj:a.block=j
   ·subst hj;rw[if_pos rfl,if_pos ZD,hb];simp[Yw]
   ·simp[hj]
  rw[e]at H;exact H
 | v :: vs,i,h,c,hb,hlen,Xc,H=>by
  simp only[List.all_cons,Bool.and_eq_true]at Xc;simp only[List.length_cons]at hlen;show hw P (store (a.add i) v >>= fun _=>storeCells a vs (i+1)) Q h;rw[Zg,run_store,SP a i hs];have ZD:a.block<h.size:=(Array.getElem?_eq_some_iff.1 hb).1;refine⟨Xc.1,?_,?_,?_⟩
  ·unfold hc;simp only[hb];refine⟨c[a.off+i]'(by omega),?_⟩;simp only[Option.isSome_none,Bool.false_eq_true,if_false];rw[Array.getElem?_eq_getElem (by omega)]
  ·unfold lL;simp only[hb];simp;omega
  ·have XH:h[({ block:=a.block,off:=a.off+i,spot:=none }:Addr).block]? = some (.cells c e (lo,hi)):=hb;rw[ud XH rfl];have Lr:(h.setIfInBounds a.block (.cells (c.setIfInBounds (a.off+i) v) e (lo,hi)))[a.block]? = some (.cells (c.setIfInBounds (a.off+i) v) e (lo,hi)):=by
    simp[ZD]
   refine Yk hs Zk3 vs (i+1) _ _ Lr (by simp;omega) Xc.2 ?_;have e2:(h.setIfInBounds a.block (.cells (c.setIfInBounds (a.off+i) v) e (lo,hi))).setIfInBounds a.block
     (.cells (Yw (c.setIfInBounds (a.off+i) v).toList (a.off+(i+1)) vs).toArray e (lo,hi)) =
     h.setIfInBounds a.block (.cells (Yw c.toList (a.off+i) (v :: vs)).toArray e (lo,hi)):=by
    rw[VM,Array.toList_setIfInBounds];rw[Array.setIfInBounds_setIfInBounds,Nat.add_assoc]
   rw[e2];exact H
theorem EC {t:TypeId} {p v:Value} (H:UG (tn P t) p v K h):hw P (Instr.storeAt t p v) (fun _ h=>K undef h) h:=by
 unfold UG at H;split at H
 ·rename_i a n hn;unfold Instr.storeAt;rw[Zg];show hw P (storeVar t a v) _ h;unfold storeVar;split at H
  ·rename_i hlen;have yV:v.cells.size=n:=by rw[←PU,hlen];simp
   rw[Zg,run_sizeOf hn];simp only[yV,ne_eq,not_true_eq_false,if_false];show hw P (storeCells a v.cells.toList) _ h;split at H
   ·rename_i cs;unfold db at H;split at H
    ·rename_i h' hh;unfold wr at hh;split at hh
     ·rename_i c e lo hi hb;split at hh
      ·rename_i Zay;obtain⟨h1,h2,h3,h4⟩:=Zay;simp only[Option.some.injEq]at hh;subst hh;exact Yk h1 h3 cs.toList 0 h c hb h2 h4 H
      ·cases hh
     ·cases hh
    ·exact H.elim
   ·rename_i hna;have Zaz:v.cells.toList=[v]:=by cases v<;>first|rfl|exact (hna _ rfl).elim
    rw[Zaz];unfold db at H;split at H
    ·rename_i h' hh;unfold JJ at hh;split at hh
     ·rename_i c e lo hi hb;split at hh
      ·rename_i Zay;obtain⟨h1,h2,h3,h4⟩:=Zay;simp only[Option.some.injEq]at hh;subst hh;refine Yk h1 h3 [v] 0 h c hb (by simp;omega) (by simpa using h4) ?_;have e1:(Yw c.toList (a.off+0) [v]).toArray=c.setIfInBounds a.off v:=by
        rw[VM,Nat.add_zero];apply Array.toList_inj.1;rw[Array.toList_setIfInBounds]
        cases h9:(c.toList.set a.off v)<;>simp[Yw]
       rw[e1];exact H
      ·cases hh
     ·cases hh
    ·exact H.elim
  ·exact H.elim
 ·exact H.elim
theorem ED {t:TypeId} {p:Value} {i:Nat} (H:RT (tf P t i) p K h):hw P (Instr.fieldAt t p i) K h:=by
 unfold RT at H;split at H
 ·rename_i o a hf;unfold tf at hf;split at hf
  ·rename_i fs hu;unfold Instr.fieldAt;rw[Zg,Zu hu]
   cases EE:fs[i]? with
   | none=>rw[EE]at hf;cases hf
   | some f=>
    rw[EE]at hf;simp only[Option.bind_some]at hf;split at hf
    ·rename_i m hm;simp only[Option.some.injEq]at hf;subst hf;simp only[EE];simp only[Instr.sureAddr,fieldPlace,Zg,Zw,run_sizeOf hm,if_neg (Nat.succ_ne_zero m)];exact H
    ·cases hf
  ·cases hf
 ·exact H.elim
theorem lX {t:TypeId} {p i:Value} (H:yU (YF P t) (JI P t) (tn P) p i K h):hw P (Instr.indexAt t p i) K h:=by
 unfold yU at H;split at H
 ·rename_i k i;split at H
  ·rename_i len e a ha hs;split at H
   ·rename_i n hn;unfold YF at ha;split at ha
    ·rename_i m e' hu;simp only[Option.some.injEq,Prod.mk.injEq]at ha;obtain⟨rfl,rfl⟩:=ha;split at H
     ·rename_i hb;simp only[Instr.indexAt,asIntOf,Instr.sureAddr,Zg,Zw,Zu hu,if_pos hb,run_sizeOf hn];exact H
     ·exact H.elim
    ·cases ha
   ·exact H.elim
  ·rename_i e a len cap ha hs;split at H
   ·rename_i n hn;unfold JI at hs;split at hs
    ·rename_i e' hu;simp only[Option.some.injEq]at hs;subst hs;split at H
     ·rename_i hb;simp only[Instr.indexAt,asIntOf,Instr.sureAddr,Zg,Zw,Zu hu,if_pos hb,run_sizeOf hn];exact H
     ·exact H.elim
    ·cases hs
   ·exact H.elim
  ·exact H.elim
 ·exact H.elim
theorem I0 {v:Value} {i:Nat} (H:Un v i K h):hw P (Instr.extract v i) K h:=by
 unfold Un at H;split at H
 ·rename_i vs;unfold MZ at H;split at H
  ·rename_i v hv;simp only[Instr.extract,hv];exact H
  ·exact H.elim
 ·exact H.elim
theorem BO {x:Operand} {f:Value} {c:Call} {args:List Value} (hc:c.callee=.value x) (hf:ev F x=f) (ha:(c.args.map (ev F)).toList=args) (H:LZ P T f args K h) :
  hw P (do let d ←resolve (ev F) c ty;invoke d.target d.args) (Xy P T K) h:=by
 unfold LZ at H;split at H
 ·rename_i f first captured;have e:first++c.args.map (ev F)++captured=(first.toList++args++captured.toList).toArray:=by rw[←ha];simp
  by_cases hg:goes P f=true
  case neg=>
   rw[if_neg hg]at H;simp only[resolve,hc,hf,Deferred.ofValue,Zg,Zw,invoke];rw[e];exact H
  rw[if_pos hg]at H;unfold goes at hg;split at hg
  ·rename_i fn ue;simp only[Bool.and_eq_true,Bool.not_eq_true']at hg;have Zee:fn.body.isNone=false:=by
    cases hb:fn.body with
    | none=>rw[hb]at hg;simp at hg
    | some _=>rfl
   simp only[resolve,hc,hf,Deferred.ofValue,Zg,Zw,invoke,callFunc,BK,ue,hg.1,Bool.false_eq_true,if_false,Zee];rw[e];exact H
  ·cases hg
 ·exact H.elim
theorem Ls {t:TypeId} {z:List Value} (hz:tz P t=some z):∃v,v.cells=z.toArray∧∀{Q:Value→Hp→Prop} {h:Hp},hw P (zeroValue t) Q h=Q v h:=by
 unfold tz at hz
 cases hi:P.info? t with
 | none=>rw[hi]at hz;cases hz
 | some i=>
  rw[hi]at hz
  cases Lt:i.zero with
  | none=>rw[Option.bind_some,Lt]at hz;cases hz
  | some v=>
   rw[Option.bind_some,Lt]at hz;simp only[Option.map_some,Option.some.injEq]at hz;refine⟨v,by rw[←hz,Array.toArray_toList],fun {Q h}=>?_⟩;unfold zeroValue;rw[Zg,Xh hi];simp only[Lt];rfl
theorem HK (off:Nat):∀(vs:List Value) (k:Nat) (cells:Array Value),
  ((vs.zipIdx k).foldl (fun (cs:Array Value) (x:Value × Nat)=>cs.setIfInBounds (off+x.2) x.1) cells).toList=Yw cells.toList (off+k) vs
 | [],k,cells=>by cases h:cells.toList<;>simp[Yw,h]
 | v :: vs,k,cells=>by
  rw[List.zipIdx_cons,List.foldl_cons,HK off vs (k+1),VM,Array.toList_setIfInBounds,Nat.add_assoc]
theorem Lu {place:Nat→Option (Nat × Nat)}:∀(parts:List (Nat × Value)) (cs:List Value) (l9:List Value),Uo place cs parts=some l9→Instr.fill place cs.toArray parts=some l9.toArray
 | [],cs,l9,h=>by simp only[Uo,Option.some.injEq]at h;subst h;rfl
 | (i,v) :: l,cs,l9,h=>by
  unfold Uo at h;unfold Instr.fill
  cases hp:place i with
  | none=>rw[hp]at h;cases h
  | some os=>
   obtain⟨o,s⟩:=os;rw[hp]at h;simp only at h ⊢;split at h
   ·rename_i hc;have yV:v.cells.size=s:=by rw[←PU];simpa using hc.1
    have PZ:¬((decide (v.cells.size≠s)||decide (o+v.cells.size>cs.toArray.size))=true):=by
     rw[yV];simp;omega
    rw[if_neg PZ];have e:(v.cells.zipIdx.foldl (fun (cs:Array Value) (x:Value × Nat)=>cs.setIfInBounds (o+x.2) x.1) cs.toArray)=(Yw cs o (cl v)).toArray:=by
     apply Array.toList_inj.1;have:=HK o (cl v) 0 cs.toArray;rw[←PU,Array.zipIdx,←Array.foldl_toList];have e3:(cl v).mapIdx (fun i a=>(a,i))=(cl v).zipIdx 0:=by
      apply List.ext_getElem?;intro i;simp[List.getElem?_zipIdx]
     simpa [Array.zipIdx,e3] using this
    have key:=Lu l _ _ h;rw[←e]at key;exact key
   ·cases h
theorem Yh {α:Type} (l:List α) (n:Nat):nth l n=l[n]?:=by
 induction l generalizing n with
 | nil=>simp[nth]
 | cons x l ih=>cases n<;>simp[nth,ih]
theorem dh (F:Env) (l:List (Nat × Operand)):BI F l=l.map fun x=>(x.1,ev F x.2):=by
 induction l with
 | nil=>rfl
 | cons x l ih=>obtain⟨i,x⟩:=x;simp[BI,ih]
theorem run_places:∀(l:List Field) (Q:List (Nat × Nat)→Hp→Prop) (pl:List (Nat × Nat)),l.mapM (fun f:Field=>(tn P f.type).map fun n=>(f.offset,n))=some pl →
  Q pl h→hw P (l.mapM fun f:Field=>do pure (f.offset,←sizeOf f.type)) Q h
 | [],Q,pl,hp,H=>by
  simp only[List.mapM_nil,pure,Option.some.injEq]at hp;subst hp;exact H
 | f :: l,Q,pl,hp,H=>by
  rw[List.mapM_cons]at hp
  cases hn:tn P f.type with
  | none=>rw[hn]at hp;cases hp
  | some n=>
   rw[hn]at hp
   cases hl:l.mapM (fun f:Field=>(tn P f.type).map fun n=>(f.offset,n)) with
   | none=>simp[hl]at hp
   | some pl'=>
    simp[hl]at hp;subst hp;rw[List.mapM_cons,Zg,Zg,run_sizeOf hn];show hw P (_ >>= _) Q h;rw[Zg];exact run_places l _ pl' hl H
theorem EF {t:TypeId} {parts:Array (Nat × Operand)} (H:RU (tz P t) (Rk P t) (YF P t) (tn P) (BI F parts.toList) K h):hw P (Instr.build t (parts.map fun (i,x)=>(i,ev F x))) K h:=by
 have e1:(parts.map fun (i,x)=>(i,ev F x)).toList=BI F parts.toList:=by rw[dh,Array.toList_map]
 unfold Instr.build;rw[e1];unfold RU at H;split at H
 ·rename_i z pl hz L0 _;obtain⟨v,hv,ZaA⟩:=Ls hz;rw[Zg,ZaA,Zg,hv];unfold Rk at L0;split at L0
  ·rename_i fs hu;rw[Zu hu];simp only;rw[Zg,←Array.toArray_toList (xs:=fs),List.mapM_toArray,map_eq_pure_bind,Zg];refine run_places fs.toList _ pl L0 ?_;unfold LY at H;split at H
   ·rename_i cs YS;have e2:(fun i=>pl.toArray[i]?)=nth pl:=by funext i;rw[Yh];simp
    have:=Lu _ _ _ YS;rw[←e2]at this;simp only[Zw,this];exact H
   ·exact H.elim
  ·cases L0
 ·rename_i z n e hz _ ha;obtain⟨v,hv,ZaA⟩:=Ls hz;rw[Zg,ZaA,Zg,hv];unfold YF at ha;split at ha
  ·rename_i n' e' hu;simp only[Option.some.injEq,Prod.mk.injEq]at ha;obtain⟨rfl,rfl⟩:=ha;rw[Zu hu];simp only;unfold Lp at H;split at H
   ·rename_i m hm;rw[Zg,run_sizeOf hm];unfold LY at H;split at H
    ·rename_i cs YS;have:=Lu _ _ _ YS;have e2:(fun i=>some (i*m,m))=PX m:=rfl;rw[e2];simp only[this];exact H
    ·exact H.elim
   ·exact H.elim
  ·cases ha
 ·exact H.elim
theorem di (z:List Value) (hz:z≠[]):∀(len:Nat),(Array.range (len*z.length)).map (fun j=>z.toArray[j%z.toArray.size]!)=(X2 len z).toArray:=by
 have L1:0<z.length:=List.length_pos_iff.2 hz;have hlen:∀len,(X2 len z).length=len*z.length:=by
  intro len
  induction len with
  | zero=>simp[X2]
  | succ n ih=>simp[X2,ih,Nat.add_mul,Nat.add_comm]
 have BN:∀len j,j<len*z.length→(X2 len z)[j]? = z[j%z.length]?:=by
  intro len
  induction len with
  | zero=>intro j hj;simp at hj
  | succ n ih=>
   intro j hj;simp only[X2];by_cases BL:j<z.length
   ·rw[List.getElem?_append_left BL,Nat.mod_eq_of_lt BL]
   ·rw[List.getElem?_append_right (by omega),ih (j-z.length) (by rw[Nat.add_mul]at hj;omega)];rw[Nat.mod_eq_sub_mod (by omega:j ≥ z.length)]
 intro len;apply Array.ext_getElem?;intro j;by_cases hj:j<len*z.length
 ·have Zk4:j%z.length<z.length:=Nat.mod_lt _ L1;simp[hj,BN len j hj,Zk4]
 ·have h2:(X2 len z)[j]? = none:=List.getElem?_eq_none (by rw[hlen];omega);simp[hj,h2]
theorem Sb (z:List Value):∀n,(X2 n z).length=n*z.length:=by
 intro len
 induction len with
 | zero=>simp[X2]
 | succ n ih=>simp[X2,ih,Nat.add_mul,Nat.add_comm]
theorem HL:∀(parts:List (Nat × Value)) (pre vs rest:List Value),BJ pre.length parts=some vs→rest.length=parts.length→Uo (PX 1) (pre++rest) parts=some (pre++vs)
 | [],pre,vs,rest,h,hl=>by
  simp only[BJ,Option.some.injEq]at h;subst h;have:rest=[]:=List.eq_nil_of_length_eq_zero (by simpa using hl);simp[Uo,this]
 | (i,v) :: l,pre,vs,rest,h,hl=>by
  unfold BJ at h;split at h
  ·rename_i hc;obtain⟨rfl,hv⟩:=hc
   cases hs:BJ (pre.length+1) l with
   | none=>rw[hs]at h;cases h
   | some us=>
    rw[hs]at h;simp only[Option.map_some,Option.some.injEq]at h;subst h
    cases rest with
    | nil=>simp at hl
    | cons r rest=>
     have XW:cl v=[v]:=by cases v<;>first|rfl|(simp[Z7]at hv)
     have e1:Yw (pre++r :: rest) pre.length [v]=(pre++[v])++rest:=by
      rw[VM];simp[Yw]
     have ih:=HL l (pre++[v]) us rest (by simpa using hs) (by simpa using hl);simp only[Uo,PX,XW,Nat.mul_one,List.length_cons,List.length_nil,List.length_append];rw[if_pos (by simp),e1,ih];simp
  ·cases h
theorem I1 {t:TypeId} {len:Nat} {parts:Array (Nat × Operand)} (H:PY (JI P t) (tn P) (tz P) len (BI F parts.toList) K h):hw P (Instr.buildSlice t len (parts.map fun (i,x)=>(i,ev F x))) K h:=by
 have e1:(parts.map fun (i,x)=>(i,ev F x)).toList=BI F parts.toList:=by rw[dh,Array.toList_map]
 unfold Instr.buildSlice;rw[e1];unfold PY at H;split at H
 ·rename_i e he;unfold JI at he;split at he
  ·rename_i e' hu;simp only[Option.some.injEq]at he;subst he;unfold SO at H;split at H
   ·rename_i n z hn hz;split at H
    ·rename_i hc;obtain⟨Bp,hle⟩:=hc;unfold dd at H;split at H
     ·rename_i l hl;have Zef:Uo (PX n) (X2 len z) (BI F parts.toList)=some l:=by
       unfold Lq at hl;split at hl
       ·rename_i hc;obtain⟨rfl,L0⟩:=hc;have:=HL (BI F parts.toList) [] l (X2 len z) hl (by rw[Sb,Bp,L0,Nat.mul_one])
        simpa using this
       ·exact hl
      rw[Zg,Zu hu];simp only;rw[Zg,run_sizeOf hn,if_neg (by omega)];have fin:∀z':Array Value,(Array.range (len*n)).map (fun j=>z'[j%z'.size]!)=(X2 len z).toArray→hw P (match Instr.fill (fun i=>some (i*n,n)) ((Array.range (len*n)).map (fun j=>z'[j%z'.size]!)) (BI F parts.toList) with
        | some cells=>do
         let a ←newRow e' cells
         pure (Value.slice (some a) len len)
        | x=>stuck "buildSlice: a part of the wrong size") K h:=by
       intro z' EG;have:=Lu _ _ _ Zef;have e2:(fun i=>some (i*n,n))=PX n:=rfl;rw[e2,EG];simp only[this];exact H
      split
      ·rename_i h0;refine fin #[] ?_;have:(X2 len z).length=0:=by rw[Sb,Bp,h0]
       rw[List.eq_nil_of_length_eq_zero this,h0];simp
      ·rename_i h0;obtain⟨v,hv,hr⟩:=Ls hz;rw[Zg,hr];refine fin v.cells ?_;have:z≠[]:=by intro e;subst e;simp at Bp;subst Bp;simp at h0
       rw[hv,←Bp];exact di z this len
     ·exact H.elim
    ·exact H.elim
   ·exact H.elim
  ·cases he
 ·exact H.elim
theorem L4 {t:TypeId} {cs:Array Value} {o:Nat} (H:Mh (ta P t) (tn P t) cs.toList o K h):hw P (part t cs o) K h:=by
 unfold Mh at H;unfold part;rw[Zg];split at H
 ·rename_i n ha hn;rw[U0 ha,if_pos rfl,Zg,run_sizeOf hn];have e:(cs.extract o (o+n))=((cs.toList.drop o).take n).toArray:=by
   apply Array.toList_inj.1;simp[List.extract_eq_take_drop]
  rw[e];exact H
 ·rename_i ha;rw[U0 ha,if_neg (by simp)];unfold MZ at H;split at H
  ·rename_i v hv;rw[Yh]at hv;have:cs[o]? = some v:=by rw[←Array.getElem?_toList];exact hv
   simp only[this];exact H
  ·exact H.elim
 ·exact H.elim
theorem fU {t:TypeId} {x:Value} {i:Nat} (H:lW (tfl P t i) (ta P) (tn P) x K h):hw P (Instr.field t x i) K h:=by
 unfold lW at H;split at H
 ·rename_i o ft cs hf;unfold tfl at hf;split at hf
  ·rename_i fs hu;unfold Instr.field;rw[Zg,Zu hu]
   cases EE:fs[i]? with
   | none=>rw[EE]at hf;cases hf
   | some f=>
    rw[EE]at hf;simp only[Option.map_some,Option.some.injEq,Prod.mk.injEq]at hf;obtain⟨rfl,rfl⟩:=hf;simp only[EE];exact L4 H
  ·cases hf
 ·exact H.elim
theorem fV {t:TypeId} {x i:Value} (H:fS (YF P t) (Um P t) (ta P) (tn P) x i K h):hw P (Instr.index t x i) K h:=by
 unfold fS at H;split at H
 ·rename_i k i;split at H
  ·rename_i len e cs ha _;unfold YF at ha;split at ha
   ·rename_i n' e' hu;simp only[Option.some.injEq,Prod.mk.injEq]at ha;obtain⟨rfl,rfl⟩:=ha;unfold df at H;split at H
    ·rename_i m hm;split at H
     ·rename_i hc;unfold Instr.index;simp only[asIntOf,Zg,Zw,Zu hu,if_pos hc,run_sizeOf hm];exact L4 (by rw[hm];exact H)
     ·exact H.elim
    ·exact H.elim
   ·cases ha
  ·rename_i s _ hs;unfold Um at hs;split at hs
   ·rename_i hu;split at H
    ·rename_i hc;unfold Instr.index;have ZD:i.toNat<s.size:=by omega
     have e:s[i.toNat]? = some s[i.toNat]:=by exact getElem?_pos s i.toNat ZD
     have e2:s.data.toList.getD i.toNat 0=s[i.toNat]:=by
      have I3:i.toNat<s.data.toList.length:=by simpa using ZD
      rw[List.getD_eq_getElem?_getD,List.getElem?_eq_getElem I3,Option.getD_some];rfl
     simp only[asIntOf,Zg,Zw,Zu hu,if_pos hc.1,e];rw[e2]at H;exact H
    ·exact H.elim
   ·cases hs
  ·exact H.elim
 ·exact H.elim
theorem L5 {x:Option Value} {v:Value} {y n:Nat} {c:BoundsCode} (hx:x=some v) (hs:sb x 0 y=some n) {Q:Nat→Hp→Prop}:hw P (Instr.sliceBound v y c) Q h=Q n h:=by
 subst hx;unfold sb at hs;split at hs
 ·rename_i he;cases he
 ·rename_i k i he;simp only[Option.some.injEq]at he;subst he;split at hs
  ·rename_i hc;simp only[Option.some.injEq]at hs;subst hs;unfold Instr.sliceBound;simp only[asIntOf,Zg,Zw,if_pos hc]
  ·cases hs
 ·cases hs
theorem RV {isS:Bool} {len cap b l:Nat} {lo hi:Option Value} (hb:sb hi len cap=some b) (hl:sb lo 0 b=some l) {Q:Nat × Nat × Nat→Hp→Prop} (H:Q (l,b,cap) h):hw P (Instr.sliceBounds isS len cap lo hi none) Q h:=by
 have h2:∀{c:BoundsCode},hw P (match lo with
   | some v=>do
    let l ←Instr.sliceBound v b c
    pure (l,b,cap)
   | none=>do
    let l ←pure 0
    pure (l,b,cap)) Q h:=by
  intro c
  cases lo with
  | none=>simp only[sb,Option.some.injEq]at hl;subst hl;exact H
  | some v=>
   simp only;rw[Zg,L5 rfl hl];exact H
 unfold Instr.sliceBounds;rw[Zg];show hw P (pure cap) _ h;rw[Zw]
 cases hi with
 | none=>
  simp only[sb,Option.some.injEq]at hb;subst hb;exact h2
 | some v=>
  have XH:sb (some v) 0 cap=some b:=by unfold sb at hb ⊢;cases v<;>simp at hb ⊢<;>exact hb
  simp only;rw[Zg,L5 rfl XH];exact h2
theorem EH {isS:Bool} {len cap m b l:Nat} {lo:Option Value} {hv mv:Value} (hm:sb (some mv) 0 cap=some m) (hb:sb (some hv) len m=some b) (hl:sb lo 0 b=some l) {Q:Nat × Nat × Nat→Hp→Prop} (H:Q (l,b,m) h):hw P (Instr.sliceBounds isS len cap lo (some hv) (some mv)) Q h:=by
 have XH:sb (some hv) 0 m=some b:=by unfold sb at hb ⊢;cases hv<;>simp at hb ⊢<;>exact hb
 unfold Instr.sliceBounds;rw[Zg];show hw P (Instr.sliceBound mv cap _) _ h;rw[L5 rfl hm,Zg,L5 rfl XH]
 cases lo with
 | none=>simp only[sb,Option.some.injEq]at hl;subst hl;exact H
 | some v=>
  show hw P (Instr.sliceBound v b _ >>= _) _ h;rw[Zg,L5 rfl hl];exact H
theorem fW {t:TypeId} {x:Value} {lo hi mx:Option Operand} (H:IZ (YF P t) (JI P t) (Um P t) (tn P) x (dg F lo) (dg F hi) (dg F mx) K h):hw P (Instr.sliceAt t x (lo.map (ev F)) (hi.map (ev F)) (mx.map (ev F))) K h:=by
 have e:∀o,dg F o=o.map (ev F):=fun o=>by cases o<;>rfl
 rw[e,e,e]at H;generalize lo.map (ev F)=lo at *;generalize hi.map (ev F)=hi at *;generalize mx.map (ev F)=mx at *;unfold IZ at H;split at H
 ·rename_i mv a len cap e ha hs;unfold JI at hs;split at hs
  ·rename_i e' hu;simp only[Option.some.injEq]at hs;subst hs;split at H
   ·rename_i hv m hm;unfold TV at H;split at H
    ·rename_i n b hn hb;split at H
     ·rename_i l hl;unfold Instr.sliceAt;rw[Zg,Zu hu];simp only;unfold Instr.slice;rw[Zg,Zu hu];simp only;rw[Zg];refine EH hm hb hl ?_;simp only[Zg,run_sizeOf hn,Zw];exact H
     ·exact H.elim
    ·exact H.elim
   ·exact H.elim
  ·cases hs
 ·rename_i a len cap e ha hs;unfold JI at hs;split at hs
  ·rename_i e' hu;simp only[Option.some.injEq]at hs;subst hs;unfold TV at H;split at H
   ·rename_i n b hn hb;split at H
    ·rename_i l hl;unfold Instr.sliceAt;rw[Zg,Zu hu];simp only;unfold Instr.slice;rw[Zg,Zu hu];simp only;rw[Zg];refine RV hb hl ?_;simp only[Zg,run_sizeOf hn,Zw];exact H
    ·exact H.elim
   ·exact H.elim
  ·cases hs
 ·rename_i a len e ha hs;unfold YF at ha;split at ha
  ·rename_i n' e' hu;simp only[Option.some.injEq,Prod.mk.injEq]at ha;obtain⟨rfl,rfl⟩:=ha;unfold TV at H;split at H
   ·rename_i n b hn hb;split at H
    ·rename_i l hl;unfold Instr.sliceAt;rw[Zg,Zu hu];simp only[Instr.sureAddr,Zg,Zw];refine RV hb hl ?_;simp only[Zg,run_sizeOf hn,Zw];have e3:(if n'=l then some a else (some a).map (·.add (l*n)))=some (if n'=l then a else a.add (l*n)):=by split<;>rfl
     rw[e3]at H;exact H
    ·exact H.elim
   ·exact H.elim
  ·cases ha
 ·rename_i s ha hs Bq;unfold Um at Bq;split at Bq
  ·rename_i hu;split at H
   ·rename_i b hb;split at H
    ·rename_i l hl;unfold Instr.sliceAt;rw[Zg,Zu hu];simp only;unfold Instr.slice;rw[Zg,Zu hu];simp only[Option.isSome_none,Bool.false_eq_true,if_false];rw[Zg];refine RV hb hl ?_;exact H
    ·exact H.elim
   ·exact H.elim
  ·cases Bq
 ·exact H.elim
theorem ma {t:TypeId} {l c:Value} (H:vMk (JI P t) (tn P) (tb P) (tz P) l c K h):hw P (Instr.makeSlice t l c) K h:=by
 unfold vMk at H;split at H
 ·rename_i e k l k' c he;unfold JI at he;split at he
  ·rename_i e' hu;simp only[Option.some.injEq]at he;subst he;unfold uc at H;split at H
   ·rename_i n bytes z hn SQ hz;split at H
    ·rename_i hc;obtain⟨Bp,h0,hlc,ZwD,Ys⟩:=hc;obtain⟨i0,T6⟩:∃i,P.info? e'=some i:=by
      unfold tn at hn
      cases hi:P.info? e' with
      | none=>rw[hi]at hn;cases hn
      | some i=>exact⟨i,rfl⟩
     have RW:i0.bytes=bytes:=by unfold tb at SQ;rw[T6]at SQ;simpa using SQ
     have w1:IntKind.i64.wrap l=l:=IntWalk.i64_in l ⟨by omega,by omega⟩;have w2:IntKind.i64.wrap c=c:=IntWalk.i64_in c ⟨by omega,by omega⟩;have ZaB:¬((bytes:Int)*c>2 ^ 48):=by omega
     unfold Instr.makeSlice;simp only[Zg,Zu hu,asInt,asIntOf,Zw,Xh T6,w1,w2,RW];have PZ:¬((decide (c<0)||decide ((bytes:Int)*c>2 ^ 48)||decide (l<0)||decide (l>c))=true):=by
      simp;omega
     rw[if_neg PZ];have RX:∀{Q:Unit→Hp→Prop} (b:Nat) (g:Hp),Q () g→hw P (askRoom b) Q g:=fun {Q} b g q=>by
      unfold askRoom;split<;>exact q
     rw[Zg];refine RX _ _ ?_;rw[Zg,run_sizeOf hn];have fin:∀z':Array Value,(Array.range (c.toNat*n)).map (fun j=>z'[j%z'.size]!)=(X2 c.toNat z).toArray→hw P (do
       let a ←newRow e' ((Array.range (c.toNat*n)).map (fun j=>z'[j%z'.size]!))
       pure (Value.slice (some a) l.toNat c.toNat)) K h:=by
      intro z' EG;rw[EG];exact H
     split
     ·rename_i h0;refine fin #[] ?_;have:(X2 c.toNat z).length=0:=by rw[Sb,Bp,h0]
      rw[List.eq_nil_of_length_eq_zero this,h0];simp
     ·rename_i h0;obtain⟨v,hv,hr⟩:=Ls hz;rw[Zg,hr];refine fin v.cells ?_;have:z≠[]:=by intro e;subst e;simp at Bp;subst Bp;simp at h0
      rw[hv,←Bp];exact di z this c.toNat
    ·exact H.elim
   ·exact H.elim
  ·cases he
 ·exact H.elim
theorem EI {op:Op} (H:WQ P T op ty K F h):IX P T ⟨none,op,ty, "", #[],none⟩ K F h:=by
 have lift:∀{s:Sem Value},hw P s K h→hw P (do pure (Next.value (←s))) (Xy P T K) h:=fun {s} H=>by rw[Zg];exact H
 unfold WQ at H;split at H
 ·exact H
 ·exact H
 ·rename_i c a b;show hw P (do pure (.value (if ←asBool (ev F c) then ev F a else ev F b))) (Xy P T K) h;unfold HJ at H;split at H
  ·rename_i t ht;rw[ht];cases t<;>exact H
  ·exact H.elim
 ·rename_i e;refine lift ?_;unfold lV tz at H;split at H
  ·rename_i l hl
   cases hi:P.info? e with
   | none=>rw[hi]at hl;cases hl
   | some i=>
    rw[hi]at hl
    cases hz:i.zero with
    | none=>rw[Option.bind_some,hz]at hl;cases hl
    | some z=>
     rw[Option.bind_some,hz]at hl;simp only[Option.map_some,Option.some.injEq]at hl;subst hl;simp only[Instr.alloc,zeroValue,Zg,Xh hi,hz,newVar,newRow,newObj,Zw,hw]
     simpa using H
  ·exact H.elim
 ·rename_i e x;refine lift ?_;simp only[lV,PU]at H;simp only[Instr.box,newVar,newRow,newObj,Zg,Zw];exact H
 ·exact lift (BM H)
 ·refine (?_:hw P (do Instr.storeAt _ _ _;pure Next.skip) (Xy P T K) h);rw[Zg];exact EC H
 ·exact lift (ED H)
 ·exact lift (lX H)
 ·rename_i x;unfold BH at H;split at H
  ·rename_i a hx;show hw P (match ev F x with|.pointer none|.nilIface|.nilFunc=>_|.func (.method name) first captured=>_|x=>_) _ h;rw[hx];exact H
  ·rename_i f a b hx;show hw P (match ev F x with|.pointer none|.nilIface|.nilFunc=>_|.func (.method name) first captured=>_|x=>_) _ h;rw[hx];exact H
  ·exact H.elim
 ·exact lift H
 ·exact lift H
 ·exact lift H
 ·exact lift (I0 H)
 ·rename_i fn first captured;refine lift ?_;have e1:∀l:Array Operand,l.map (ev F)=(fR F l.toList).toArray:=fun l=>by rw[GX,←Array.toList_map]
  show hw P (Instr.makeFunc fn (first.map (ev F)) (captured.map (ev F))) K h;rw[e1,e1];exact H
 ·rename_i f args ts;exact BO (x:=f) (c:=⟨.value f,args,ts⟩) rfl rfl (by rw[GX];simp) H
 ·rename_i b args ts;have e1:args.map (ev F)=(fR F args.toList).toArray:=by rw[GX,←Array.toList_map]
  unfold T9 at H;rw[←e1]at H;exact H
 ·exact lift (EF H)
 ·exact lift (I1 H)
 ·exact lift (fU H)
 ·exact lift (fV H)
 ·exact lift (fW H)
 ·exact lift (ma H)
 ·exact H
theorem Jz {o:Oper} (H:WQ P T o.op o.type K F h):IX P T o K F h:=EI H
def QX:List Oper→Env→Nat→Value
 | [],_,_=>undef
 | o :: _,F,0=>match o.dst with|some t=>F t|none=>undef
 | _ :: l,F,n+1=>QX l F n
def XI (v:Value) (b:Bool) (A B:Prop):Prop:=match v with|.bool c=>if c=b then A else B|_=>B
def P9 (P:Program) (T:World) (ops:List Oper) (N:Env→Hp→Prop):List Oper→Env→Hp→Prop
 | [],F,h=>N F h
 | ⟨d,op,ty,_,_,none⟩ :: l,F,h=>WQ P T op ty (fun v h'=>P9 P T ops N l (Z3 F d v) h') F h
 | ⟨d,op,ty,_,_,some (j,b)⟩ :: l,F,h=>XI (QX ops F j) b (WQ P T op ty (fun v h'=>P9 P T ops N l (Z3 F d v) h') F h) (P9 P T ops N l (Z3 F d undef) h)
theorem I4 (ops:List Oper) (F:Env):∀j,Uk ops.toArray F j=match QX ops F j with|.bool b=>some b|_=>none:=by
 intro j;unfold Uk;rw[List.getElem?_toArray]
 induction ops generalizing j with
 | nil=>rfl
 | cons o l ih=>
  cases j with
  | zero=>simp only[List.getElem?_cons_zero,Option.bind_some,QX];cases o.dst<;>rfl
  | succ j=>simp only[List.getElem?_cons_succ,QX];exact ih j
theorem Y3 (ops:List Oper) (F:Env) (d:Option Tmp) (op:Op) (pos:String) (Up:Array Edge) (j:Nat) (b:Bool) {A B:Prop} (H:XI (QX ops F j) b A B) :
  (Z8 ops.toArray ⟨d,op,ty,pos,Up,some (j,b)⟩ F=true∧A)∨(Z8 ops.toArray ⟨d,op,ty,pos,Up,some (j,b)⟩ F=false∧B):=by
 unfold Z8 Region.wanted;simp only[I4];unfold XI at H;split at H
 ·rename_i c hc;split at H
  ·rename_i GY;exact .inl ⟨by simp[GY],H⟩
  ·rename_i GY;exact .inr ⟨by simpa using GY,H⟩
 ·rename_i YA;refine .inr ⟨?_,H⟩
  cases hv:QX ops F j<;>first|rfl|exact (YA _ hv).elim
theorem Qm {op:Op} {K':Value→Hp→Prop} (hk:∀v h,K v h→K' v h) (H:WQ P T op ty K F h):IX P T ⟨none,op,ty, "", #[],none⟩ K' F h:=PO hk (EI H)
theorem UP {ops:List Oper} {N:Env→Hp→Prop}:∀(l:List Oper) (F:Env) (h:Hp),P9 P T ops N l F h→fN P T ops.toArray N l F h
 | [],F,h,H=>H
 | ⟨d,op,ty,pos,Up,none⟩ :: l,F,h,H=>by
  show (if Z8 ops.toArray _ F=true then _ else _);rw[if_pos (by rfl)];exact Qm (fun v h' q=>UP l _ _ q) H
 | ⟨d,op,ty,pos,Up,some (j,b)⟩ :: l,F,h,H=>by
  show (if Z8 ops.toArray _ F=true then _ else _);rcases Y3 ops F d op pos Up j b H with⟨hw,H⟩|⟨hw,H⟩
  ·rw[if_pos hw];exact Qm (fun v h' q=>UP l _ _ q) H
  ·rw[hw,if_neg (by simp)];exact UP l _ _ H
def VN (P:Program) (T:World) (ops:List Oper) (S:Hp→Prop) (N:Env→Hp→Prop):List (Nat × Bool × Oper)→Env→Hp→Prop
 | [],F,h=>N F h
 | (_,true,⟨d,op,ty,_,_,none⟩) :: l,F,h=>∃v,(∀h',S h'→WQ P T op ty (fun v' Nj=>v'=v∧Nj=h') F h')∧VN P T ops S N l (Z3 F d v) h
 | (_,false,⟨d,op,ty,_,_,none⟩) :: l,F,h=>WQ P T op ty (fun v h'=>S h'∧VN P T ops S N l (Z3 F d v) h') F h
 | (_,true,⟨d,op,ty,_,_,some (j,b)⟩) :: l,F,h=>XI (QX ops F j) b (∃v,(∀h',S h'→WQ P T op ty (fun v' Nj=>v'=v∧Nj=h') F h')∧VN P T ops S N l (Z3 F d v) h) (VN P T ops S N l (Z3 F d undef) h)
 | (_,false,⟨d,op,ty,_,_,some (j,b)⟩) :: l,F,h=>XI (QX ops F j) b (WQ P T op ty (fun v h'=>S h'∧VN P T ops S N l (Z3 F d v) h') F h) (VN P T ops S N l (Z3 F d undef) h)
theorem XB {ops:List Oper} {S:Hp→Prop} {N:Env→Hp→Prop}:∀(l:List (Nat × Bool × Oper)) (F:Env) (h:Hp),VN P T ops S N l F h→PS P T ops.toArray S N l F h
 | [],F,h,H=>H
 | (i,true,⟨d,op,ty,pos,Up,none⟩) :: l,F,h,H=>by
  show (if Z8 ops.toArray _ F=true then _ else _);rw[if_pos (by rfl)];obtain⟨v,hv,H⟩:=H;exact⟨v,fun h' hs=>Jz (hv h' hs),XB l _ _ H⟩
 | (i,false,⟨d,op,ty,pos,Up,none⟩) :: l,F,h,H=>by
  show (if Z8 ops.toArray _ F=true then _ else _);rw[if_pos (by rfl)];exact Qm (fun v h' q=>⟨q.1,XB l _ _ q.2⟩) H
 | (i,true,⟨d,op,ty,pos,Up,some (j,b)⟩) :: l,F,h,H=>by
  show (if Z8 ops.toArray _ F=true then _ else _);rcases Y3 ops F d op pos Up j b H with⟨hw,H⟩|⟨hw,H⟩
  ·rw[if_pos hw];obtain⟨v,hv,H⟩:=H;exact⟨v,fun h' hs=>Jz (hv h' hs),XB l _ _ H⟩
  ·rw[hw,if_neg (by simp)];exact XB l _ _ H
 | (i,false,⟨d,op,ty,pos,Up,some (j,b)⟩) :: l,F,h,H=>by
  show (if Z8 ops.toArray _ F=true then _ else _);rcases Y3 ops F d op pos Up j b H with⟨hw,H⟩|⟨hw,H⟩
  ·rw[if_pos hw];exact Qm (fun v h' q=>⟨q.1,XB l _ _ q.2⟩) H
  ·rw[hw,if_neg (by simp)];exact XB l _ _ H
theorem VS.ZaC {n:Nat} {N:Env→Hp→Prop} {X:Nat→Env→Hp→Prop} {R:Env→Hp→Prop} {id:Nat} {ops:List Oper} (hm:P.follows .mixedOrders=true) (J2:VL n ops.toArray ((List.range ops.toArray.size).map fun i=>(i,true))=true)
  (H:VN P T ops (fun h'=>h'=h) N (ops.map fun o=>(0,true,o)) F h):VS P n T (.region id ops.toArray true) N X R F h:=by
 refine VS.quiet hm J2 ?_;have key:∀(l:List Oper) (k:Nat) (F:Env),(∀j,l[j]? = ops[k+j]?)→VN P T ops (fun h'=>h'=h) N (l.map fun o=>(0,true,o)) F h →
   VN P T ops (fun h'=>h'=h) N (UF ops.toArray ((List.range' k l.length).map fun i=>(i,true))) F h:=by
  intro l
  induction l with
  | nil=>intro k F _ H;exact H
  | cons o l ih=>
   intro k F hl H;have h0:ops[k]? = some o:=by simpa using (hl 0).symm
   have Br:∀j,l[j]? = ops[k+1+j]?:=fun j=>by have:=hl (j+1);simpa [Nat.add_assoc,Nat.add_comm 1 j] using this
   have e:UF ops.toArray ((List.range' k (o :: l).length).map fun i=>(i,true))=(k,true,o) :: UF ops.toArray ((List.range' (k+1) l.length).map fun i=>(i,true)):=by
    simp[UF,List.range'_succ,h0]
   rw[e];obtain⟨d,op,ty,pos,Up,g⟩:=o
   cases g with
   | none=>
    obtain⟨v,hv,H⟩:=H;exact⟨v,hv,ih (k+1) _ Br H⟩
   | some jb=>
    obtain⟨j,b⟩:=jb;simp only[List.map_cons,VN]at H ⊢;unfold XI at *;split at H
    ·split at H
     ·rename_i GY;rw[if_pos GY];obtain⟨v,hv,H⟩:=H;exact⟨v,hv,ih (k+1) _ Br H⟩
     ·rename_i GY;rw[if_neg GY];exact ih (k+1) _ Br H
    ·exact ih (k+1) _ Br H
 have:=key ops 0 F (fun j=>by simp) H;rw[List.range_eq_range'];exact XB _ _ _ this
def mb (v:Value) (A B:Prop):Prop:=match v with|.bool b=>if b=true then A else B|_=>False
def vc (P:Program) (n:Nat) (T:World):Code→(Env→Hp→Prop)→(Nat→Env→Hp→Prop)→(Env→Hp→Prop)→Env→Hp→Prop
 | .skip,N,_,_,F,h=>N F h
 | .ret,_,_,R,F,h=>R F h
 | .exit j,_,X,_,F,h=>X j F h
 | .seq a b,N,X,R,F,h=>vc P n T a (fun F h=>vc P n T b N X R F h) X R F h
 | .cond c a b,N,X,R,F,h=>mb (ev F c) (vc P n T a N X R F h) (vc P n T b N X R F h)
 | .block j c,N,X,R,F,h=>vc P n T c N (fun i F h=>if i=j then N F h else X i F h) R F h
 | .region _ ops false,N,_,_,F,h=>P9 P T ops.toList N ops.toList F h
 | c,N,X,R,F,h=>VS P n T c N X R F h
def codeOk (n:Nat):Code→Bool
 | .seq a b=>codeOk n a&&codeOk n b
 | .cond _ a b=>codeOk n a&&codeOk n b
 | .block _ c=>codeOk n c
 | .region _ ops false=>Md n ops
 | _=>true
theorem Jp {n:Nat}:∀(c:Code) (N:Env→Hp→Prop) (X:Nat→Env→Hp→Prop) (R:Env→Hp→Prop) (F:Env) (h:Hp),codeOk n c=true→vc P n T c N X R F h→VS P n T c N X R F h:=by
 intro c
 induction c with
 | skip=>intro N X R F h _ H;exact VS.skip H
 | ret=>intro N X R F h _ H;exact VS.ret H
 | exit j=>intro N X R F h _ H;exact VS.exit H
 | seq a b iha ihb=>
  intro N X R F h J2 H;simp only[codeOk,Bool.and_eq_true]at J2;exact VS.seq (VS.mono (iha _ _ _ _ _ J2.1 H) (fun F h q=>ihb _ _ _ _ _ J2.2 q) (fun _ _ _ q=>q) (fun _ _ q=>q))
 | cond c a b iha ihb=>
  intro N X R F h J2 H;simp only[codeOk,Bool.and_eq_true]at J2;simp only[vc,mb]at H;split at H
  ·rename_i t ht;refine VS.cond ht (fun hb=>?_) (fun hb=>?_)
   ·rw[if_pos hb]at H;exact iha _ _ _ _ _ J2.1 H
   ·rw[if_neg (by simp[hb])]at H;exact ihb _ _ _ _ _ J2.2 H
  ·exact H.elim
 | block j c ih=>intro N X R F h J2 H;exact VS.block (ih _ _ _ _ _ J2 H)
 | region id ops draw=>
  intro N X R F h J2 H
  cases draw with
  | true=>exact H
  | false=>exact VS.region J2 (by simpa using UP _ _ _ H)
 | _=>intro N X R F h _ H;exact H
theorem Zc.uf {f:FuncId} {fn:Func} {c:Code} {l:List ResultVar} {args:List Value} {Q:Value→Hp→Prop} (hf:P.funcs[f]? = some fn) (hb:fn.body=some c)
  (hl:fn.results=l.toArray) (hn:Nat.ble args.length fn.ntmps=true) (J2:codeOk fn.ntmps c=true)
  (H:vc P fn.ntmps T c (fun F h'=>LX P l F Q h') (fun _ _ _=>False) (fun F h'=>LX P l F Q h') (IW args 0) h) :
  Zc P T f args.toArray h Q:=
 Zc.Lo hf hb hl (by simpa using hn) (by simpa using Jp _ _ _ _ _ _ J2 H)
end
section
variable {P:Program} {T:World} {K:Value→Hp→Prop} {F:Env} {h:Hp} {ty:TypeId}
def ug (P:Program) (T:World) (ops:List Oper) (N:Env→Hp→Prop) (l:List Oper) (F:Env) (d:Option Tmp):Value→Hp→Prop:=fun v h=>P9 P T ops N l (Z3 F d v) h
theorem mf {ops l:List Oper} {N:Env→Hp→Prop} {d:Option Tmp} {v:Value}:ug P T ops N l F d v h=P9 P T ops N l (Z3 F d v) h:=rfl
theorem mg {ops:List Oper} {N:Env→Hp→Prop}:P9 P T ops N [] F h=N F h:=rfl
theorem BP {ops l:List Oper} {N:Env→Hp→Prop} {d:Option Tmp} {op:Op} {pos:String} {Up:Array Edge} :
  P9 P T ops N (⟨d,op,ty,pos,Up,none⟩ :: l) F h=WQ P T op ty (ug P T ops N l F d) F h:=rfl
def BQ (P:Program) (T:World) (ops:List Oper) (N:Env→Hp→Prop) (l:List Oper) (F:Env) (d:Option Tmp) (op:Op) (ty:TypeId) (v:Value) (b:Bool) (h:Hp):Prop:=
 XI v b (WQ P T op ty (ug P T ops N l F d) F h) (P9 P T ops N l (Z3 F d undef) h)
theorem BR {ops l:List Oper} {N:Env→Hp→Prop} {d:Option Tmp} {op:Op} {pos:String} {Up:Array Edge} {j:Nat} {b:Bool} :
  P9 P T ops N (⟨d,op,ty,pos,Up,some (j,b)⟩ :: l) F h=BQ P T ops N l F d op ty (QX ops F j) b h:=rfl
theorem EJ {ops l:List Oper} {N:Env→Hp→Prop} {d:Option Tmp} {op:Op} {b c:Bool} :
  BQ P T ops N l F d op ty (.bool c) b h=if c=b then WQ P T op ty (ug P T ops N l F d) F h else P9 P T ops N l (Z3 F d undef) h:=rfl
def Zeg (P:Program) (n:Nat) (T:World) (b:Code) (N:Env→Hp→Prop) (X:Nat→Env→Hp→Prop) (R:Env→Hp→Prop):Env→Hp→Prop:=fun F h=>vc P n T b N X R F h
def Zeh (j:Nat) (N:Env→Hp→Prop) (X:Nat→Env→Hp→Prop):Nat→Env→Hp→Prop:=fun i F h=>if i=j then N F h else X i F h
def mh:Nat→Env→Hp→Prop:=fun _ _ _=>False
def uh (P:Program) (l:List ResultVar) (Q:Value→Hp→Prop):Env→Hp→Prop:=fun F h=>LX P l F Q h
def yW (P:Program) (n:Nat) (T:World) (v:Value) (a b:Code) (N:Env→Hp→Prop) (X:Nat→Env→Hp→Prop) (R:Env→Hp→Prop) (F:Env) (h:Hp):Prop:=
 mb v (vc P n T a N X R F h) (vc P n T b N X R F h)
section
variable {n:Nat} {N:Env→Hp→Prop} {X:Nat→Env→Hp→Prop} {R:Env→Hp→Prop}
theorem mi {b:Code}:Zeg P n T b N X R F h=vc P n T b N X R F h:=rfl
theorem mj {i j:Nat}:Zeh j N X i F h=if i=j then N F h else X i F h:=rfl
theorem fX {i:Nat}:mh i F h=False:=rfl
theorem mm {l:List ResultVar} {Q:Value→Hp→Prop}:uh P l Q F h=LX P l F Q h:=rfl
theorem ui:vc P n T .skip N X R F h=N F h:=rfl
theorem ZaD:vc P n T .ret N X R F h=R F h:=rfl
theorem uj {j:Nat}:vc P n T (.exit j) N X R F h=X j F h:=rfl
theorem ZaE {a b:Code}:vc P n T (.seq a b) N X R F h=vc P n T a (Zeg P n T b N X R) X R F h:=rfl
theorem uk {c:Operand} {a b:Code}:vc P n T (.cond c a b) N X R F h=yW P n T (ev F c) a b N X R F h:=rfl
theorem mo {j:Nat} {c:Code}:vc P n T (.block j c) N X R F h=vc P n T c N (Zeh j N X) R F h:=rfl
theorem fY {id:Nat} {l:List Oper}:vc P n T (.region id l.toArray false) N X R F h=P9 P T l N l F h:=rfl
theorem um {id:Nat} {l:Array Oper}:vc P n T (.region id l true) N X R F h=VS P n T (.region id l true) N X R F h:=rfl
theorem uo {c:Code}:vc P n T (.loop c) N X R F h=VS P n T (.loop c) N X R F h:=rfl
theorem BS {a b:Code} {t:Bool}:yW P n T (.bool t) a b N X R F h=if t=true then vc P n T a N X R F h else vc P n T b N X R F h:=rfl
end
theorem Zc.Zk {f:FuncId} {fn:Func} {c:Code} {l:List ResultVar} {args:List Value} {Q:Value→Hp→Prop} (hf:P.funcs[f]? = some fn) (hb:fn.body=some c)
  (hl:fn.results=l.toArray) (hn:Nat.ble args.length fn.ntmps=true) (J2:codeOk fn.ntmps c=true)
  (H:vc P fn.ntmps T c (uh P l Q) mh (uh P l Q) (IW args 0) h):Zc P T f args.toArray h Q:=Zc.uf hf hb hl hn J2 H
def Yt (I:Env→Hp→Prop) (μ:Env→Hp→Nat) (m:Nat):Env→Hp→Prop:=fun F h=>I F h∧μ F h<m
theorem VS.ZW {n:Nat} {N:Env→Hp→Prop} {X:Nat→Env→Hp→Prop} {R:Env→Hp→Prop} {c:Code} (I:Env→Hp→Prop) (μ:Env→Hp→Nat) (J2:codeOk n c=true) (h0:I F h)
  (round:∀F h,I F h→vc P n T c (Yt I μ (μ F h)) X R F h):VS P n T (.loop c) N X R F h:=
 VS.loop I μ h0 fun F h hI=>Jp _ _ _ _ _ _ J2 (round F h hI)
theorem Zc.use {f:FuncId} {args:Array Value} {Q:Value→Hp→Prop} (c:Zc P T f args h Q) (H:∀v h',Q v h'→K v h'):Zc P T f args h K:=c.mono H
theorem Zc.pure {f:FuncId} {args:Array Value} {r:Value} (c:Zc P T f args h fun v h'=>v=r∧h'=h) (H:K r h):Zc P T f args h K:=
 c.mono fun _ _ ⟨e1,e2⟩=>by subst e1;subst e2;exact H
def ap (B:Value→Prop) (v:Value):Prop:=B v
def SU (v:Value) (h:Hp):Value→Hp→Prop:=fun v' h'=>v'=v∧h'=h
def Oa (P:Program) (T:World) (ops:List Oper) (N:Env→Hp→Prop):List Oper→Env→Hp→Prop
 | [],F,h=>N F h
 | ⟨d,op,ty,_,_,none⟩ :: l,F,h=>∃v,WQ P T op ty (SU v h) F h∧Oa P T ops N l (Z3 F d v) h
 | ⟨d,op,ty,_,_,some (j,b)⟩ :: l,F,h=>XI (QX ops F j) b (∃v,WQ P T op ty (SU v h) F h∧Oa P T ops N l (Z3 F d v) h) (Oa P T ops N l (Z3 F d undef) h)
theorem Qn {ops:List Oper} {N:Env→Hp→Prop}:∀(l:List Oper) (F:Env),Oa P T ops N l F h→VN P T ops (fun h'=>h'=h) N (l.map fun o=>(0,true,o)) F h
 | [],_,H=>H
 | ⟨d,op,ty,pos,Up,none⟩ :: l,F,H=>by
  obtain⟨v,hv,H⟩:=H;exact⟨v,fun h' e=>by subst e;exact hv,Qn l _ H⟩
 | ⟨d,op,ty,pos,Up,some (j,b)⟩ :: l,F,H=>by
  simp only[Oa,XI]at H;simp only[List.map_cons,VN,XI];split at H
  ·split at H
   ·rename_i GY;rw[if_pos GY];obtain⟨v,hv,H⟩:=H;exact⟨v,fun h' e=>by subst e;exact hv,Qn l _ H⟩
   ·rename_i GY;rw[if_neg GY];exact Qn l _ H
  ·exact Qn l _ H
theorem VS.q {n:Nat} {N:Env→Hp→Prop} {X:Nat→Env→Hp→Prop} {R:Env→Hp→Prop} {id:Nat} {ops:List Oper} (hm:P.follows .mixedOrders=true) (J2:VL n ops.toArray ((List.range ops.toArray.size).map fun i=>(i,true))=true)
  (H:Oa P T ops N ops F h):VS P n T (.region id ops.toArray true) N X R F h:=VS.ZaC hm J2 (Qn _ _ H)
def qK (P:Program) (T:World) (ops:List Oper) (N:Env→Hp→Prop) (l:List Oper) (F:Env) (d:Option Tmp) (h:Hp):Value→Prop:=fun v=>Oa P T ops N l (Z3 F d v) h
def GZ (P:Program) (T:World) (op:Op) (ty:TypeId) (B:Value→Prop) (F:Env) (h:Hp):Prop:=∃v,WQ P T op ty (SU v h) F h∧ap B v
def BT (P:Program) (T:World) (ops:List Oper) (N:Env→Hp→Prop) (l:List Oper) (F:Env) (d:Option Tmp) (op:Op) (ty:TypeId) (v:Value) (b:Bool) (h:Hp):Prop:=
 XI v b (GZ P T op ty (qK P T ops N l F d h) F h) (Oa P T ops N l (Z3 F d undef) h)
theorem mq {ops:List Oper} {N:Env→Hp→Prop}:Oa P T ops N [] F h=N F h:=rfl
theorem BU {ops l:List Oper} {N:Env→Hp→Prop} {d:Option Tmp} {op:Op} {pos:String} {Up:Array Edge} :
  Oa P T ops N (⟨d,op,ty,pos,Up,none⟩ :: l) F h=GZ P T op ty (qK P T ops N l F d h) F h:=rfl
theorem BV {ops l:List Oper} {N:Env→Hp→Prop} {d:Option Tmp} {op:Op} {pos:String} {Up:Array Edge} {j:Nat} {b:Bool} :
  Oa P T ops N (⟨d,op,ty,pos,Up,some (j,b)⟩ :: l) F h=BT P T ops N l F d op ty (QX ops F j) b h:=rfl
theorem EK {ops l:List Oper} {N:Env→Hp→Prop} {d:Option Tmp} {op:Op} {b c:Bool} :
  BT P T ops N l F d op ty (.bool c) b h=if c=b then GZ P T op ty (qK P T ops N l F d h) F h else Oa P T ops N l (Z3 F d undef) h:=rfl
theorem ZaF {ops l:List Oper} {N:Env→Hp→Prop} {d:Option Tmp} {v:Value}:qK P T ops N l F d h v=Oa P T ops N l (Z3 F d v) h:=rfl
def qR (x:Option Value) (B:Value→Prop):Prop:=match x with|some v=>ap B v|none=>False
theorem uq {v:Value} {B:Value→Prop}:qR (some v) B=B v:=rfl
theorem kQ {v:Value} {B:Value→Prop}:(∃u,SU u h v h∧ap B u)=B v:=by
 apply propext;constructor
 ·rintro⟨u,⟨e,_⟩,H⟩;subst e;exact H
 ·intro H;exact⟨v,⟨rfl,rfl⟩,H⟩
section
variable {B:Value→Prop}
theorem mw {x:Operand}:GZ P T (.move x) ty B F h=B (ev F x):=kQ
theorem BW {x:Operand}:GZ P T (.assign x) ty B F h=B (ev F x):=kQ
def my (c a b:Value) (B:Value→Prop):Prop:=match c with|.bool t=>B (if t then a else b)|_=>False
theorem BX {t:Bool} {a b:Value}:my (.bool t) a b B=B (if t=true then a else b):=rfl
theorem mz {c a b:Operand}:GZ P T (.pick c a b) ty B F h=my (ev F c) (ev F a) (ev F b) B:=by
 show (∃u,HJ _ _ _ (SU u h) h∧ap B u)=_;unfold HJ my
 cases ev F c<;>first|exact kQ|simp
def dj (s:Option Bool) (n:Option Nat) (p:Value) (B:Value→Prop) (h:Hp):Prop:=
 match p with
 | .pointer (some a)=>match s,n with
  | some false,_=>qR (hc h a) B
  | some true,some n=>qR ((rd h a n).map fun l=>.agg l.toArray) B
  | _,_=>False
 | _=>False
theorem fZ {n:Option Nat} {a:Addr}:dj (some false) n (.pointer (some a)) B h=qR (hc h a) B:=rfl
theorem BY {n:Nat} {a:Addr}:dj (some true) (some n) (.pointer (some a)) B h=qR ((rd h a n).map fun l=>.agg l.toArray) B:=rfl
theorem mA {t:TypeId} {x:Operand}:GZ P T (.load t x) ty B F h=dj (ta P t) (tn P t) (ev F x) B h:=by
 show (∃u,PV _ _ _ (SU u h) h∧ap B u)=_;unfold PV dj
 cases ev F x with
 | pointer a=>
  cases a with
  | none=>simp
  | some a=>
   simp only;rcases ta P t with _|b
   ·simp
   ·cases b
    ·simp only[MZ,qR]
     cases hc h a with
     | none=>simp
     | some v=>exact kQ
    ·rcases tn P t with _|n
     ·simp
     ·simp only[LY,qR]
      cases rd h a n with
      | none=>simp
      | some v=>exact kQ
 | _=>simp
def BZ (f:Option Nat) (p:Value) (B:Value→Prop):Prop:=match f,p with|some o,.pointer (some a)=>B (.pointer (some (a.add o)))|_,_=>False
theorem EL {o b f:Nat}:BZ (some o) (.pointer (some ⟨b,f,none⟩)) B=B (.pointer (some ⟨b,f+o,none⟩)):=by
 show B (.pointer (some (Addr.add _ _)))=_;rw[Y4]
theorem gd {t:TypeId} {x:Operand} {i:Nat}:GZ P T (.fieldAddr t x i) ty B F h=BZ (tf P t i) (ev F x) B:=by
 show (∃u,RT _ _ (SU u h) h∧ap B u)=_;unfold RT BZ;rcases tf P t i with _|o
 ·simp
 ·cases ev F x with
  | pointer a=>cases a with
   | none=>simp
   | some a=>exact kQ
  | _=>simp
def qIx (arr:Option (Nat × TypeId)) (sl:Option TypeId) (n:TypeId→Option Nat) (p i:Value) (B:Value→Prop):Prop:=
 match i with
 | .int _ i=>(match arr,sl,p with
  | some (len,e),none,.pointer (some a)=>(match n e with
   | some n=>if 0≤i∧i<(len:Int) then B (.pointer (some (a.add (i.toNat*n)))) else False
   | none=>False)
  | none,some e,.slice (some a) len _=>(match n e with
   | some n=>if 0≤i∧i<(len:Int) then B (.pointer (some (a.add (i.toNat*n)))) else False
   | none=>False)
  | _,_,_=>False)
 | _=>False
def ur (m:Option Nat) (len:Nat) (a:Addr) (i:Int) (B:Value→Prop):Prop:=
 match m with|some m=>if 0≤i∧i<(len:Int) then B (.pointer (some (a.add (i.toNat*m)))) else False|none=>False
theorem uw {len:Nat} {e:TypeId} {n:TypeId→Option Nat} {a:Addr} {k:IntKind} {i:Int}:qIx (some (len,e)) none n (.pointer (some a)) (.int k i) B=ur (n e) len a i B:=rfl
theorem gh {len cap:Nat} {e:TypeId} {n:TypeId→Option Nat} {a:Addr} {k:IntKind} {i:Int}:qIx none (some e) n (.slice (some a) len cap) (.int k i) B=ur (n e) len a i B:=rfl
theorem gj {m len b f:Nat} {i:Int}:ur (some m) len ⟨b,f,none⟩ i B=if 0≤i∧i<(len:Int) then B (.pointer (some ⟨b,f+i.toNat*m,none⟩)) else False:=by
 simp only[ur,Y4]
theorem RY {c:Prop} [Decidable c] {A:Value→Prop}:(∃u,(if c then A u else False)∧ap B u)=if c then (∃u,A u∧ap B u) else False:=by
 split<;>simp
theorem ZaG {t:TypeId} {x i:Operand}:GZ P T (.indexAddr t x i) ty B F h=qIx (YF P t) (JI P t) (tn P) (ev F x) (ev F i) B:=by
 show (∃u,yU _ _ _ _ _ (SU u h) h∧ap B u)=_;unfold yU qIx
 cases ev F i with
 | int k i=>
  simp only;rcases YF P t with _|⟨len,e⟩
  ·rcases JI P t with _|e
   ·simp
   ·cases ev F x with
    | slice a len cap=>
     cases a with
     | none=>simp
     | some a=>
      simp only;rcases tn P e with _|n
      ·simp
      ·simp only;rw[RY,kQ]
    | _=>simp
  ·rcases JI P t with _|e'
   ·cases ev F x with
    | pointer a=>
     cases a with
     | none=>simp
     | some a=>
      simp only;rcases tn P e with _|n
      ·simp
      ·simp only;rw[RY,kQ]
    | _=>simp
   ·simp
 | _=>simp
def Ob (v:Value) (i:Nat) (B:Value→Prop):Prop:=match v with|.tuple vs=>qR (vs[i]?) B|_=>False
theorem L6 {l:List Value} {i:Nat}:Ob (.tuple l.toArray) i B=qR (nth l i) B:=by simp[Ob,Yh]
theorem EM {x:Operand} {i:Nat}:GZ P T (.extract x i) ty B F h=Ob (ev F x) i B:=by
 show (∃u,Un _ _ (SU u h) h∧ap B u)=_;unfold Un Ob
 cases ev F x with
 | tuple vs=>
  simp only[MZ,qR]
  cases vs[i]? with
  | none=>simp
  | some v=>exact kQ
 | _=>simp
def ZaH (v:Value) (B:Value→Prop):Prop:=match v with|.pointer (some a)=>B (.pointer (some a))|.func (.func f) x y=>B (.func (.func f) x y)|_=>False
theorem G0 {a:Addr}:ZaH (.pointer (some a)) B=B (.pointer (some a)):=rfl
theorem uy {x:Operand}:GZ P T (.nilCheck x) ty B F h=ZaH (ev F x) B:=by
 show (∃u,BH _ (SU u h) h∧ap B u)=_;unfold BH ZaH
 cases ev F x with
 | pointer a=>cases a with
  | none=>simp
  | some a=>exact kQ
 | func f a b=>cases f with
  | func f=>exact kQ
  | _=>simp
 | _=>simp
theorem uz {op:BinOp} {t t':TypeId} {x y:Operand}:GZ P T (.binOp op t x y t') ty B F h = ∃u,Xa P op t x y (ev F x) (ev F y) (SU u h) h∧ap B u:=rfl
theorem ZaI {op:UnOp} {t:TypeId} {x:Operand}:GZ P T (.unOp op t x) ty B F h = ∃u,vUn P op (ev F x) (SU u h) h∧ap B u:=rfl
theorem mB {s d:TypeId} {x:Operand}:GZ P T (.convert s d x) ty B F h = ∃u,PW P s d (ev F x) (SU u h) h∧ap B u:=rfl
theorem ZaJ {b:Builtin} {args:Array Operand} {ts:Array TypeId}:GZ P T (.call ⟨.builtin b,args,ts⟩) ty B F h =
  ∃u,T9 P T b ts ty (args.map fun|.const _=>true|_=>false) (fR F args.toList) (SU u h) h∧ap B u:=rfl
end
theorem ZaK {t:Nat}:ev F (.tmp t)=F t:=rfl
theorem mC {v:Value}:ev F (.const v)=v:=rfl
theorem gk {g:Nat}:ev F (.global g)=.pointer (some ⟨g,0,none⟩):=rfl
theorem uA {g:Nat}:ev F (.func g)=.func (.func g) #[] #[]:=rfl
theorem Zi {d:Nat} {v:Value} {t:Nat}:Z3 F (some d) v t=if t=d then v else F t:=rfl
theorem gm {v:Value}:Z3 F none v=F:=rfl
theorem uB {d:Nat} {v:Value} {t:Nat}:upd F d v t=if t=d then v else F t:=rfl
theorem Aa {t:Bool} {a b:Value}:HJ (.bool t) a b K h=K (if t=true then a else b) h:=rfl
theorem gn {l:List Value} {t:TypeId}:lV (some l) t K h=K (.pointer (some ⟨h.size,0,none⟩)) (h.push (.cells l.toArray t)):=rfl
theorem gq {v:Value}:MZ (some v) K h=K v h:=rfl
theorem gu {l:List Value}:LY (some l) K h=K (.agg l.toArray) h:=rfl
theorem HM {n:Option Nat} {a:Addr}:PV (some false) n (.pointer (some a)) K h=MZ (hc h a) K h:=rfl
theorem L9 {n:Nat} {a:Addr}:PV (some true) (some n) (.pointer (some a)) K h=LY (rd h a n) K h:=rfl
theorem mD {h':Hp}:db (some h') K=K undef h':=rfl
theorem Ab {n:Nat} {a:Addr} {k:IntKind} {i:Int}:UG (some n) (.pointer (some a)) (.int k i) K h=if n=1 then db (JJ h a (.int k i)) K else False:=rfl
theorem EN {n:Nat} {a:Addr} {b:Bool}:UG (some n) (.pointer (some a)) (.bool b) K h=if n=1 then db (JJ h a (.bool b)) K else False:=rfl
theorem G6 {n:Nat} {a:Addr} {p:Option Addr} {l c:Nat}:UG (some n) (.pointer (some a)) (.slice p l c) K h=if n=1 then db (JJ h a (.slice p l c)) K else False:=rfl
theorem I5 {n:Nat} {a:Addr} {s:ByteArray}:UG (some n) (.pointer (some a)) (.string s) K h=if n=1 then db (JJ h a (.string s)) K else False:=rfl
theorem Ka {n:Nat} {a:Addr} {p:Option Addr}:UG (some n) (.pointer (some a)) (.pointer p) K h=if n=1 then db (JJ h a (.pointer p)) K else False:=rfl
theorem Ad {n:Nat} {a:Addr} {p:Option Nat}:UG (some n) (.pointer (some a)) (.map p) K h=if n=1 then db (JJ h a (.map p)) K else False:=rfl
theorem EO {n:Nat} {a:Addr} {f:Fn} {x y:Array Value}:UG (some n) (.pointer (some a)) (.func f x y) K h=if n=1 then db (JJ h a (.func f x y)) K else False:=rfl
theorem Kb {n:Nat} {a:Addr}:UG (some n) (.pointer (some a)) .nilFunc K h=if n=1 then db (JJ h a .nilFunc) K else False:=rfl
theorem Af {n:Nat} {a:Addr} {l:List Value}:UG (some n) (.pointer (some a)) (.agg l.toArray) K h=if n=l.length then db (wr h a l) K else False:=rfl
theorem EP {o b f:Nat}:RT (some o) (.pointer (some ⟨b,f,none⟩)) K h=K (.pointer (some ⟨b,f+o,none⟩)) h:=by
 show K (.pointer (some (Addr.add _ _))) h=_;rw[Y4]
def uC (m:Option Nat) (len:Nat) (a:Addr) (i:Int) (K:Value→Hp→Prop) (h:Hp):Prop:=
 match m with|some m=>if 0≤i∧i<(len:Int) then K (.pointer (some (a.add (i.toNat*m)))) h else False|none=>False
theorem uD {len:Nat} {e:TypeId} {n:TypeId→Option Nat} {a:Addr} {k:IntKind} {i:Int} :
  yU (some (len,e)) none n (.pointer (some a)) (.int k i) K h=uC (n e) len a i K h:=rfl
theorem gv {len cap:Nat} {e:TypeId} {n:TypeId→Option Nat} {a:Addr} {k:IntKind} {i:Int} :
  yU none (some e) n (.slice (some a) len cap) (.int k i) K h=uC (n e) len a i K h:=rfl
theorem gx {m len b f:Nat} {i:Int}:uC (some m) len ⟨b,f,none⟩ i K h=if 0≤i∧i<(len:Int) then K (.pointer (some ⟨b,f+i.toNat*m,none⟩)) h else False:=by
 simp only[uC,Y4]
theorem Kc {l:List Value} {i:Nat}:Un (.tuple l.toArray) i K h=MZ (nth l i) K h:=by simp[Un,Yh]
theorem G7 {a:Addr}:BH (.pointer (some a)) K h=K (.pointer (some a)) h:=rfl
theorem gy {f:FuncId} {x y:Array Value}:BH (.func (.func f) x y) K h=K (.func (.func f) x y) h:=rfl
theorem Ag {f:FuncId} {l:List Value} (hg:goes P f=true):LZ P T (.func (.func f) #[] #[]) l K h=Zc P T f l.toArray h K:=by
 simp only[LZ,hg,↓reduceIte];simp
theorem mE {t:TypeId} {x y:Operand} {k:IntKind} {a b:Int}:Xa P .add t x y (.int k a) (.int k b) K h=K (.int k (k.wrap (a+b))) h:=by
 simp[Xa,binOp,Op.intArith,Zw,eqGuard]
theorem mF {t:TypeId} {x y:Operand} {k:IntKind} {a b:Int}:Xa P .sub t x y (.int k a) (.int k b) K h=K (.int k (k.wrap (a-b))) h:=by
 simp[Xa,binOp,Op.intArith,Zw,eqGuard]
theorem mG {t:TypeId} {x y:Operand} {k:IntKind} {a b:Int}:Xa P .mul t x y (.int k a) (.int k b) K h=K (.int k (k.wrap (a*b))) h:=by
 simp[Xa,binOp,Op.intArith,Zw,eqGuard]
theorem mH {t:TypeId} {x y:Operand} {k:IntKind} {a b:Int}:Xa P .quo t x y (.int k a) (.int k b) K h=if b=0 then False else K (.int k (k.wrap (a.tdiv b))) h:=by
 simp only[Xa,binOp,Op.intDiv,Zg,eqGuard];by_cases hb:b=0
 ·subst hb;simp[runtimePanic,goPanic,Zg,hw,Zw,program]
 ·simp[hb,Zw]
theorem mI {t:TypeId} {x y:Operand} {k:IntKind} {a b:Int}:Xa P .rem t x y (.int k a) (.int k b) K h=if b=0 then False else K (.int k (a.tmod b)) h:=by
 simp only[Xa,binOp,Op.intDiv,Zg,eqGuard];by_cases hb:b=0
 ·subst hb;simp[runtimePanic,goPanic,Zg,hw,Zw,program]
 ·simp[hb,Zw]
def Yc (op:BinOp) (k:IntKind) (a b:Int):Int:=
 let x:=BitVec.ofInt k.bits a
 let y:=BitVec.ofInt k.bits b
 k.wrap (match op with|.and=>x &&& y|.or=>x ||| y|.xor=>x ^^^ y|_=>x &&& ~~~y).toNat
theorem mJ {t:TypeId} {x y:Operand} {k:IntKind} {a b:Int}:Xa P .and t x y (.int k a) (.int k b) K h=K (.int k (Yc .and k a b)) h:=by
 simp[Xa,binOp,Op.intBits,Zw,eqGuard,Yc]
theorem uE {t:TypeId} {x y:Operand} {k:IntKind} {a b:Int}:Xa P .or t x y (.int k a) (.int k b) K h=K (.int k (Yc .or k a b)) h:=by
 simp[Xa,binOp,Op.intBits,Zw,eqGuard,Yc]
theorem mK {t:TypeId} {x y:Operand} {k:IntKind} {a b:Int}:Xa P .xor t x y (.int k a) (.int k b) K h=K (.int k (Yc .xor k a b)) h:=by
 simp[Xa,binOp,Op.intBits,Zw,eqGuard,Yc]
theorem ER {t:TypeId} {x y:Operand} {k:IntKind} {a b:Int}:Xa P .andNot t x y (.int k a) (.int k b) K h=K (.int k (Yc .andNot k a b)) h:=by
 simp[Xa,binOp,Op.intBits,Zw,eqGuard,Yc]
def YL (k:IntKind) (a b:Int):Int:=k.wrap (a*2 ^ min b.toNat k.bits)
def YV (k:IntKind) (a b:Int):Int:=a.fdiv (2 ^ min b.toNat k.bits)
theorem mL {t:TypeId} {x y:Operand} {k k':IntKind} {a b:Int}:Xa P .shl t x y (.int k a) (.int k' b) K h=if b<0 then False else K (.int k (YL k a b)) h:=by
 simp only[Xa,binOp,Op.shift,Zg,eqGuard];by_cases hb:b<0
 ·simp[hb,runtimePanic,goPanic,Zg,hw,Zw,program]
 ·simp[hb,Zw,YL]
theorem mM {t:TypeId} {x y:Operand} {k k':IntKind} {a b:Int}:Xa P .shr t x y (.int k a) (.int k' b) K h=if b<0 then False else K (.int k (YV k a b)) h:=by
 simp only[Xa,binOp,Op.shift,Zg,eqGuard];by_cases hb:b<0
 ·simp[hb,runtimePanic,goPanic,Zg,hw,Zw,program]
 ·simp[hb,Zw,YV]
theorem mN {t:TypeId} {x y:Operand} {k:IntKind} {a b:Int}:Xa P .eql t x y (.int k a) (.int k b) K h=K (.bool (decide (a=b))) h:=by
 simp[Xa,binOp,Op.intCmp,Zw,eqGuard];rfl
theorem mO {t:TypeId} {x y:Operand} {k:IntKind} {a b:Int}:Xa P .neq t x y (.int k a) (.int k b) K h=K (.bool (decide (a≠b))) h:=by
 simp[Xa,binOp,Op.intCmp,Zw,eqGuard];have:(a != b) = !decide (a=b):=by rfl
 rw[this]
theorem mP {t:TypeId} {x y:Operand} {k:IntKind} {a b:Int}:Xa P .lss t x y (.int k a) (.int k b) K h=K (.bool (decide (a<b))) h:=by
 simp[Xa,binOp,Op.intCmp,Zw,eqGuard]
theorem mQ {t:TypeId} {x y:Operand} {k:IntKind} {a b:Int}:Xa P .leq t x y (.int k a) (.int k b) K h=K (.bool (decide (a≤b))) h:=by
 simp[Xa,binOp,Op.intCmp,Zw,eqGuard]
theorem mR {t:TypeId} {x y:Operand} {k:IntKind} {a b:Int}:Xa P .gtr t x y (.int k a) (.int k b) K h=K (.bool (decide (b<a))) h:=by
 simp[Xa,binOp,Op.intCmp,Zw,eqGuard]
theorem mS {t:TypeId} {x y:Operand} {k:IntKind} {a b:Int}:Xa P .geq t x y (.int k a) (.int k b) K h=K (.bool (decide (b≤a))) h:=by
 simp[Xa,binOp,Op.intCmp,Zw,eqGuard]
theorem uF {b:Bool}:vUn P .not (.bool b) K h=K (.bool (!b)) h:=rfl
theorem uG {k:IntKind} {a:Int}:vUn P .neg (.int k a) K h=K (.int k (k.wrap (0-a))) h:=rfl
theorem uH {k:IntKind} {a:Int}:vUn P .xor (.int k a) K h=K (.int k (Yc .xor k (if k.signed then -1 else k.max) a)) h:=rfl
def mT (d:Option IntKind) (a:Int) (K:Value→Hp→Prop) (h:Hp):Prop:=match d with|some k=>K (.int k (k.wrap a)) h|none=>False
theorem ES {k:IntKind} {a:Int}:mT (some k) a K h=K (.int k (k.wrap a)) h:=rfl
theorem gz {s d:TypeId} {j:IntKind} {a:Int} (hs:(IY P s).isSome=true) (hd:(IY P d).isSome=true):PW P s d (.int j a) K h=mT (IY P d) a K h:=by
 unfold IY at hd hs;split at hd
 ·rename_i k1 h1;split at hs
  ·rename_i k2 h2;simp only[PW,convert,Zg,Zu h1,Zu h2];unfold IY;rw[h1];rfl
  ·cases hs
 ·cases hd
theorem gC {t:TypeId} {x y:Operand} {a b:ByteArray}:Xa P .eql t x y (.string a) (.string b) K h=K (.bool (a.toList == b.toList)) h:=by
 simp[Xa,binOp,Op.stringOp,Zw,eqGuard]
theorem gD {t:TypeId} {x y:Operand} {a b:ByteArray}:Xa P .neq t x y (.string a) (.string b) K h=K (.bool (!(a.toList == b.toList))) h:=by
 simp[Xa,binOp,Op.stringOp,Zw,eqGuard]
theorem G8 {cs:Array Bool} {t:TypeId} {p:Option Addr} {l c:Nat} (ht:(JI P t).isSome=true) :
  T9 P T .len #[t] ty cs [.slice p l c] K h=K (.int .i64 l) h:=by
 unfold JI at ht;split at ht
 ·rename_i e' hu;simp[T9,builtin,Builtin.len_,Zg,Zw,Zu hu,Xy,goInt]
 ·cases ht
theorem gE {t:TypeId} (h:Um P t=true):P.underlying t=some .string:=by
 unfold Um at h;split at h
 ·assumption
 ·cases h
theorem I6 {cs:Array Bool} {t:TypeId} {s:ByteArray} (ht:Um P t=true) :
  T9 P T .len #[t] ty cs [.string s] K h=K (.int .i64 s.size) h:=by
 simp[T9,builtin,Builtin.len_,Zg,Zw,Zu (gE ht),Xy,goInt]
theorem uI {ts:Array TypeId} {cs:Array Bool} {k k':IntKind} {a b:Int}:T9 P T .min ts ty cs [.int k a,.int k' b] K h=K (.int k (if b<a then b else a)) h:=by
 simp[T9,builtin,Builtin.min_,Builtin.min2,Zw,Xy]
theorem uJ {ts:Array TypeId} {cs:Array Bool} {k k':IntKind} {a b:Int}:T9 P T .max ts ty cs [.int k a,.int k' b] K h=K (.int k (if b>a then b else a)) h:=by
 simp[T9,builtin,Builtin.max_,Builtin.max2,Zw,Xy]
end
section
variable {P:Program} {T:World} {K:Value→Hp→Prop} {F:Env} {h:Hp} {ty:TypeId} {B:Value→Prop}
def mU (p:Option (Nat × Nat)) (place:Nat→Option (Nat × Nat)) (cs:List Value) (v:Value) (l:List (Nat × Value)):Option (List Value):=
 match p with
 | some (o,s)=>if (cl v).length=s∧o+s≤cs.length then Uo place (Yw cs o (cl v)) l else none
 | none=>none
theorem gF {place:Nat→Option (Nat × Nat)} {cs:List Value}:Uo place cs []=some cs:=rfl
theorem Ah {place:Nat→Option (Nat × Nat)} {cs:List Value} {i:Nat} {v:Value} {l:List (Nat × Value)}:Uo place cs ((i,v) :: l)=mU (place i) place cs v l:=rfl
theorem ET {o s:Nat} {place:Nat→Option (Nat × Nat)} {cs:List Value} {v:Value} {l:List (Nat × Value)} :
  mU (some (o,s)) place cs v l=if (cl v).length=s∧o+s≤cs.length then Uo place (Yw cs o (cl v)) l else none:=rfl
theorem gG {n i:Nat}:PX n i=some (i*n,n):=rfl
theorem I7 {z:List Value} {pl:List (Nat × Nat)} {n:TypeId→Option Nat} {parts:List (Nat × Value)}:RU (some z) (some pl) none n parts K h=LY (Uo (nth pl) z parts) K h:=rfl
theorem Ai {z:List Value} {m e:Nat} {n:TypeId→Option Nat} {parts:List (Nat × Value)}:RU (some z) none (some (m,e)) n parts K h=Lp (n e) z parts K h:=rfl
theorem G9 {z:List Value} {n:Nat} {parts:List (Nat × Value)}:Lp (some n) z parts K h=LY (Uo (PX n) z parts) K h:=rfl
theorem Aj {e:TypeId} {len:Nat} {l:List Value}:dd e len (some l) K h=K (.slice (some ⟨h.size,0,none⟩) len len) (h.push (.cells l.toArray e)):=rfl
theorem Kd {e:TypeId} {n len:Nat} {z:List Value} {parts:List (Nat × Value)}:SO e (some n) (some z) len parts K h=if z.length=n∧len*n≤16777216 then dd e len (Lq n len z parts) K h else False:=rfl
theorem I8 {e:TypeId} {n:TypeId→Option Nat} {z:TypeId→Option (List Value)} {len:Nat} {parts:List (Nat × Value)}:PY (some e) n z len parts K h=SO e (n e) (z e) len parts K h:=rfl
theorem Ak {n o:Nat} {cs:List Value}:Mh (some true) (some n) cs o K h=K (.agg ((cs.drop o).take n).toArray) h:=rfl
theorem EU {n:Option Nat} {o:Nat} {cs:List Value}:Mh (some false) n cs o K h=MZ (nth cs o) K h:=rfl
theorem gH {o t:Nat} {a:TypeId→Option Bool} {n:TypeId→Option Nat} {cs:List Value}:lW (some (o,t)) a n (.agg cs.toArray) K h=Mh (a t) (n t) cs o K h:=rfl
theorem mV {len e:Nat} {a:TypeId→Option Bool} {n:TypeId→Option Nat} {cs:List Value} {k:IntKind} {i:Int}:fS (some (len,e)) false a n (.agg cs.toArray) (.int k i) K h=df (n e) (a e) len cs i K h:=rfl
theorem Am {m len:Nat} {a:Option Bool} {cs:List Value} {i:Int}:df (some m) a len cs i K h=if 0≤i∧i<(len:Int) then Mh a (some m) cs (i.toNat*m) K h else False:=rfl
theorem mW {a:TypeId→Option Bool} {n:TypeId→Option Nat} {s:ByteArray} {k:IntKind} {i:Int}:fS none true a n (.string s) (.int k i) K h=if 0≤i∧i<(s.size:Int) then K (.int .u8 ((s.data.toList.getD i.toNat 0).toNat:Nat)) h else False:=rfl
theorem uK {d y:Nat}:sb none d y=some d:=rfl
theorem ZaL {k:IntKind} {i:Int} {d y:Nat}:sb (some (.int k i)) d y=if 0≤i∧i≤(y:Int) then some i.toNat else none:=rfl
def Rx (a:Option Addr) (n cap b:Nat) (l:Option Nat) (K:Value→Hp→Prop) (h:Hp):Prop:=
 match l with|some l=>K (.slice (if cap=l then a else a.map (·.add (l*n))) (b-l) (cap-l)) h|none=>False
def mX (n:Nat) (a:Option Addr) (cap:Nat) (lo:Option Value) (b:Option Nat) (K:Value→Hp→Prop) (h:Hp):Prop:=
 match b with|some b=>Rx a n cap b (sb lo 0 b) K h|none=>False
theorem An {n:Nat} {a:Option Addr} {len cap:Nat} {lo hi:Option Value}:TV (some n) a len cap lo hi K h=mX n a cap lo (sb hi len cap) K h:=by
 unfold TV mX Rx
 cases sb hi len cap<;>rfl
theorem Ao {n b:Nat} {a:Option Addr} {cap:Nat} {lo:Option Value}:mX n a cap lo (some b) K h=Rx a n cap b (sb lo 0 b) K h:=rfl
theorem Ap {n b l k o:Nat} {cap:Nat}:Rx (some ⟨k,o,none⟩) n cap b (some l) K h=K (.slice (if cap=l then some ⟨k,o,none⟩ else some ⟨k,o+l*n,none⟩) (b-l) (cap-l)) h:=by
 simp only[Rx,Option.map_some,Y4]
theorem Aq {n b l:Nat} {cap:Nat}:Rx none n cap b (some l) K h=K (.slice none (b-l) (cap-l)) h:=by
 simp[Rx]
theorem Ar {e:Nat} {str:Bool} {n:TypeId→Option Nat} {a:Option Addr} {len cap:Nat} {lo hi:Option Value}:IZ none (some e) str n (.slice a len cap) lo hi none K h=TV (n e) a len cap lo hi K h:=rfl
def mY (n:Option Nat) (a:Option Addr) (len:Nat) (lo:Option Value) (hv:Value) (m:Option Nat) (K:Value→Hp→Prop) (h:Hp):Prop:=match m with|some m=>TV n a len m lo (some hv) K h|none=>False
theorem As {n:Option Nat} {a:Option Addr} {len m:Nat} {lo:Option Value} {hv:Value}:mY n a len lo hv (some m) K h=TV n a len m lo (some hv) K h:=rfl
theorem mZ {e:Nat} {str:Bool} {n:TypeId→Option Nat} {a:Option Addr} {len cap:Nat} {lo:Option Value} {hv mv:Value}:IZ none (some e) str n (.slice a len cap) lo (some hv) (some mv) K h=mY (n e) a len lo hv (sb (some mv) 0 cap) K h:=by
 simp only[IZ,mY]
 cases sb (some mv) 0 cap<;>rfl
theorem m7 {e len:Nat} {str:Bool} {n:TypeId→Option Nat} {a:Addr} {lo hi:Option Value}:IZ (some (len,e)) none str n (.pointer (some a)) lo hi none K h=TV (n e) (some a) len len lo hi K h:=rfl
def Zei (s:ByteArray) (lo:Option Value) (b:Option Nat) (K:Value→Hp→Prop) (h:Hp):Prop:=
 match b with
 | some b=>(match sb lo 0 b with|some l=>K (.string (s.extract l b)) h|none=>False)
 | none=>False
theorem nc {n:TypeId→Option Nat} {s:ByteArray} {lo hi:Option Value}:IZ none none true n (.string s) lo hi none K h=Zei s lo (sb hi s.size s.size) K h:=rfl
theorem nf {e:Nat} {n b':TypeId→Option Nat} {z:TypeId→Option (List Value)} {k k':IntKind} {l c:Int}:vMk (some e) n b' z (.int k l) (.int k' c) K h=uc e (n e) (b' e) (z e) l c K h:=rfl
theorem gI {e n by':Nat} {z:List Value} {l c:Int}:uc e (some n) (some by') (some z) l c K h =
  if z.length=n∧0≤l∧l≤c∧c≤9223372036854775807∧(by':Int)*c≤281474976710656 then K (.slice (some ⟨h.size,0,none⟩) l.toNat c.toNat) (h.push (.cells (X2 c.toNat z).toArray e)) else False:=rfl
theorem uL {t:TypeId} {x:Operand} {i:Nat}:GZ P T (.field t x i) ty B F h = ∃u,lW (tfl P t i) (ta P) (tn P) (ev F x) (SU u h) h∧ap B u:=rfl
theorem uM {t:TypeId} {x i:Operand}:GZ P T (.index t x i) ty B F h = ∃u,fS (YF P t) (Um P t) (ta P) (tn P) (ev F x) (ev F i) (SU u h) h∧ap B u:=rfl
theorem uN {t:TypeId} {x:Operand} {lo hi mx:Option Operand}:GZ P T (.slice t x lo hi mx) ty B F h = ∃u,IZ (YF P t) (JI P t) (Um P t) (tn P) (ev F x) (dg F lo) (dg F hi) (dg F mx) (SU u h) h∧ap B u:=rfl
theorem gJ {t:TypeId} {parts:Array (Nat × Operand)}:GZ P T (.build t parts) ty B F h = ∃u,RU (tz P t) (Rk P t) (YF P t) (tn P) (BI F parts.toList) (SU u h) h∧ap B u:=rfl
theorem ZaM {l:List Value}:cl (.agg l.toArray)=l:=rfl
theorem SV {l:List Value} {t:TypeId} {b o:Nat}:hc (h.push (.cells l.toArray t)) ⟨b,o,none⟩=if b=h.size then nth l o else hc h ⟨b,o,none⟩:=by
 unfold hc;simp only[Array.getElem?_push];by_cases hb:b=h.size
 ·subst hb;simp[Yh]
 ·simp[hb]
theorem dk {l:List Value} {t:TypeId} {b o n:Nat}:rd (h.push (.cells l.toArray t)) ⟨b,o,none⟩ n=if b=h.size then (if o+n≤l.length then some ((l.drop o).take n) else none) else rd h ⟨b,o,none⟩ n:=by
 unfold rd;simp only[Array.getElem?_push];by_cases hb:b=h.size
 ·subst hb;simp
 ·simp[hb]
def EV (x:Option Hp) (o:Obj):Option Hp:=match x with|some h=>some (h.push o)|none=>none
theorem At {o:Obj}:EV (some h) o=some (h.push o):=rfl
theorem set_push {o o':Obj} {b:Nat} (hb:b<h.size):(h.push o).setIfInBounds b o'=(h.setIfInBounds b o').push o:=by
 apply Array.ext_getElem?;intro i;simp only[Array.getElem?_setIfInBounds,Array.getElem?_push,Array.size_push,Array.size_setIfInBounds];by_cases h1:b=i
 ·subst h1;rw[if_pos rfl,if_pos (by omega),if_neg (by omega),if_pos rfl,if_pos hb]
 ·rw[if_neg h1];by_cases h2:i=h.size
  ·rw[if_pos h2,if_pos h2]
  ·rw[if_neg h2,if_neg h2,if_neg h1]
theorem WR {o o':Obj}:(h.push o).setIfInBounds h.size o'=h.push o':=by
 apply Array.ext_getElem?;intro i;simp only[Array.getElem?_setIfInBounds,Array.getElem?_push,Array.size_push];by_cases h1:h.size=i
 ·subst h1;rw[if_pos rfl,if_pos (by omega),if_pos rfl]
 ·rw[if_neg h1,if_neg (fun e=>h1 e.symm),if_neg (fun e=>h1 e.symm)]
theorem ng {l:List Value} {t:TypeId} {b o:Nat} {v:Value}:JJ (h.push (.cells l.toArray t)) ⟨b,o,none⟩ v=if b=h.size then (if o<l.length∧Z7 v=true then some (h.push (.cells (l.set o v).toArray t)) else none) else EV (JJ h ⟨b,o,none⟩ v) (.cells l.toArray t):=by
 unfold JJ;simp only[Array.getElem?_push];by_cases hb:b=h.size
 ·subst hb;simp only[↓reduceIte,List.size_toArray,Nat.le_refl,true_and,WR,List.setIfInBounds_toArray]
 ·simp only[if_neg hb]
  cases hx:h[b]? with
  | none=>rfl
  | some ob=>
   have ZD:=(Array.getElem?_eq_some_iff.1 hx).1
   cases ob with
   | cells c e fr=>
    obtain⟨lo,hi⟩:=fr;simp only;split
    ·simp only[EV,set_push ZD]
    ·rfl
   | _=>rfl
theorem uO {l:List Value} {t:TypeId} {b o:Nat} {vs:List Value}:wr (h.push (.cells l.toArray t)) ⟨b,o,none⟩ vs=if b=h.size then (if o+vs.length≤l.length∧vs.all Z7=true then some (h.push (.cells (Yw l o vs).toArray t)) else none) else EV (wr h ⟨b,o,none⟩ vs) (.cells l.toArray t):=by
 unfold wr;simp only[Array.getElem?_push];by_cases hb:b=h.size
 ·subst hb;simp only[↓reduceIte,List.size_toArray,Nat.le_refl,true_and,WR]
 ·simp only[if_neg hb]
  cases hx:h[b]? with
  | none=>rfl
  | some ob=>
   have ZD:=(Array.getElem?_eq_some_iff.1 hx).1
   cases ob with
   | cells c e fr=>
    obtain⟨lo,hi⟩:=fr;simp only;split
    ·simp only[EV,set_push ZD]
    ·rfl
   | _=>rfl
end
def YY (h:Hp) (b o:Nat) (cs:List Value):Prop:=∀i (hi:i<cs.length),hc h ⟨b,o+i,none⟩=some cs[i]
def Sl (n:Nat) (h:Hp) (v:Value) (m:Nat) (cs:List Value):Prop:=
 ∃p cap,v=.slice p m cap∧cs.length=m*n∧(cs≠[]→∃b o,p=some ⟨b,o,none⟩∧YY h b o cs)
def Qv (B:Nat) (E:TypeId) (n:Nat) (h:Hp) (v:Value) (m:Nat) (cs:List Value):Prop:=
 ((∃p,v=.slice p 0 0)∧m=0∧cs=[]) ∨
 ∃b cap spare,B≤b∧v=.slice (some ⟨b,0,none⟩) m cap∧h[b]? = some (.cells (cs++spare).toArray E (0,0))∧cs.length=m*n∧spare.length=(cap-m)*n∧m≤cap
structure Zf (B:Nat) (h h':Hp):Prop where
 size:h.size≤h'.size
 block:∀b,b<B→h'[b]? = h[b]?
theorem Zf.refl (B:Nat) (h:Hp):Zf B h h:=⟨Nat.le_refl _,fun _ _=>rfl⟩
theorem Zf.trans {B:Nat} {h h' Nj:Hp} (a:Zf B h h') (b:Zf B h' Nj):Zf B h Nj:=
 ⟨Nat.le_trans a.size b.size,fun k hk=>(b.block k hk).trans (a.block k hk)⟩
theorem Zf.mono {B B':Nat} {h h':Hp} (a:Zf B h h') (hB:B'≤B):Zf B' h h':=⟨a.size,fun k hk=>a.block k (Nat.lt_of_lt_of_le hk hB)⟩
theorem Zf.push {B:Nat} {h:Hp} (hB:B≤h.size) (o:Obj):Zf B h (h.push o):=
 ⟨by simp,fun k hk=>by rw[Array.getElem?_push,if_neg (by omega)]⟩
theorem Zf.set {B:Nat} {h:Hp} {b:Nat} (hb:B≤b) (o:Obj):Zf B h (h.setIfInBounds b o):=
 ⟨by simp,fun k hk=>by rw[Array.getElem?_setIfInBounds,if_neg (by omega)]⟩
theorem Zf.hc {B:Nat} {h h':Hp} (a:Zf B h h') {p:Addr} (hp:p.block<B):hc h' p=hc h p:=by unfold V.hc;rw[a.block _ hp]
theorem Za {h:Hp} {b:Nat} {o:Obj} (hb:h[b]? = some o):b<h.size:=(Array.getElem?_eq_some_iff.1 hb).1
theorem Uq {h:Hp} {p:Addr} {v:Value} (hp:hc h p=some v):p.block<h.size:=by
 unfold hc at hp
 cases hb:h[p.block]? with
 | none=>rw[hb]at hp;cases hp
 | some o=>exact Za hb
theorem VO {h:Hp} {b:Nat} {c:Array Value} {e:TypeId} {fr:Nat × Nat} (hb:h[b]? = some (.cells c e fr)) (o:Nat):hc h ⟨b,o,none⟩=c[o]?:=by
 unfold hc;simp only[hb];rfl
theorem Zf.YY {B:Nat} {h h':Hp} (a:Zf B h h') {b o:Nat} {cs:List Value} (hb:b<B) (YS:YY h b o cs):YY h' b o cs:=
 fun i hi=>by rw[a.hc (by exact hb)];exact YS i hi
theorem Sl.Z2 {n:Nat} {h h':Hp} {v:Value} {m:Nat} {cs:List Value} (s:Sl n h v m cs) (a:Zf h.size h h'):Sl n h' v m cs:=by
 obtain⟨p,cap,hv,hl,hc⟩:=s;refine⟨p,cap,hv,hl,fun YA=>?_⟩;obtain⟨b,o,hp,YS⟩:=hc YA;refine⟨b,o,hp,a.YY ?_ YS⟩;have L1:0<cs.length:=List.length_pos_iff.2 YA;exact Uq (YS 0 L1)
theorem Qv.sl {B:Nat} {E:TypeId} {n:Nat} {h:Hp} {v:Value} {m:Nat} {cs:List Value} (s:Qv B E n h v m cs):Sl n h v m cs:=by
 rcases s with⟨⟨p,rfl⟩,rfl,rfl⟩|⟨b,cap,spare,hB,rfl,hb,hl,_,_⟩
 ·exact⟨p,0,rfl,by simp,fun h=>(h rfl).elim⟩
 ·refine⟨_,cap,rfl,hl,fun _=>⟨b,0,rfl,fun i hi=>?_⟩⟩;rw[VO hb,Nat.zero_add];simp[List.getElem?_append_left hi]
theorem Qv.nil (B:Nat) (E:TypeId) (n:Nat) (h:Hp):Qv B E n h (.slice none 0 0) 0 []:=.inl ⟨⟨none,rfl⟩,rfl,rfl⟩
theorem Qv.I9 (B:Nat) (E:TypeId) (n:Nat) (h:Hp) (p:Option Addr):Qv B E n h (.slice p 0 0) 0 []:=.inl ⟨⟨p,rfl⟩,rfl,rfl⟩
def ZO:Value→Option Nat
 | .slice (some a) _ cap=>if cap=0 then none else some a.block
 | _=>none
structure Tv (x:Option Nat) (h h':Hp):Prop where
 size:h.size≤h'.size
 block:∀b,b<h.size→x≠some b→h'[b]? = h[b]?
theorem Tv.Z2 {x:Option Nat} {h h':Hp} (a:Tv x h h') {B:Nat} (hB:B≤h.size) (hx:∀b,x=some b→B≤b):Zf B h h':=
 ⟨a.size,fun k hk=>a.block k (by omega) (fun e=>by have:=hx k e;omega)⟩
theorem Qv.ZG {B:Nat} {E:TypeId} {n:Nat} {h:Hp} {v:Value} {m:Nat} {cs:List Value} (s:Qv B E n h v m cs):∀b,ZO v=some b→B≤b:=by
 intro b hb;rcases s with⟨⟨p,rfl⟩,_,_⟩|⟨b',cap,spare,hB,rfl,_⟩
 ·cases p<;>simp[ZO]at hb
 ·simp only[ZO]at hb;split at hb
  ·cases hb
  ·simp only[Option.some.injEq]at hb;omega
theorem Qv.M0 {B:Nat} {E:TypeId} {n:Nat} {h h':Hp} {v:Value} {m:Nat} {cs:List Value} (s:Qv B E n h v m cs) {x:Option Nat} (a:Tv x h h') (hx:∀b,ZO v=some b→x≠some b):Qv B E n h' v m cs:=by
 rcases s with s|⟨b,cap,spare,hB,rfl,hb,r⟩
 ·exact .inl s
 ·by_cases hc:cap=0
  ·subst hc;obtain⟨r1,r2,r3⟩:=r;have hm:m=0:=by omega
   subst hm;exact .inl ⟨⟨_,rfl⟩,rfl,List.eq_nil_of_length_eq_zero (by simpa using r1)⟩
  ·exact .inr ⟨b,cap,spare,hB,rfl,by rw[a.block b (Za hb) (hx b (by simp[ZO,hc]))];exact hb,r⟩
theorem Tv.push {h:Hp} (o:Obj) {x:Option Nat}:Tv x h (h.push o):=⟨by simp,fun k hk _=>by rw[Array.getElem?_push,if_neg (by omega)]⟩
theorem Tv.refl {h:Hp} {x:Option Nat}:Tv x h h:=⟨Nat.le_refl _,fun _ _ _=>rfl⟩
theorem Qv.push {B:Nat} {E:TypeId} {n:Nat} {h:Hp} {v:Value} {m:Nat} {cs:List Value} (s:Qv B E n h v m cs) (o:Obj):Qv B E n (h.push o) v m cs:=
 s.M0 (x:=none) (Tv.push o) (fun _ _=>by simp)
theorem Qv.Z2 {B C:Nat} {E:TypeId} {n:Nat} {h h':Hp} {v:Value} {m:Nat} {cs:List Value} (s:Qv B E n h v m cs) (a:Zf C h h') (hC:h.size≤C):Qv B E n h' v m cs:=
 s.M0 (x:=none) ⟨a.size,fun b hb _=>a.block b (by omega)⟩ (fun _ _=>by simp)
theorem Qv.mono {B B':Nat} {E:TypeId} {n:Nat} {h:Hp} {v:Value} {m:Nat} {cs:List Value} (s:Qv B E n h v m cs) (hB:B'≤B):Qv B' E n h v m cs:=by
 rcases s with s|⟨b,cap,spare,hb,r⟩
 ·exact .inl s
 ·exact .inr ⟨b,cap,spare,by omega,r⟩
section
variable {P:Program} {T:World} {K:Value→Hp→Prop} {F:Env} {h:Hp} {ty:TypeId}
theorem Z4 {n m:Nat} {v:Value} {cs:List Value} (s:Sl n h v m cs) {Q:Array Value→Hp→Prop} (H:Q cs.toArray h):hw P (Builtin.firstCells n m v) Q h:=by
 obtain⟨p,cap,rfl,hl,hc⟩:=s
 cases p with
 | none=>
  have:cs=[]:=by
   cases cs with
   | nil=>rfl
   | cons x l=>obtain⟨b,o,hp,_⟩:=hc (by simp);cases hp
  subst this;exact H
 | some a=>
  show hw P (loadCells a (m*n)) Q h;rw[←hl];refine run_loadCells a cs _ 0 #[] (fun j hj=>?_) rfl (by simpa using H);obtain⟨b,o,hp,YS⟩:=hc (by intro e;subst e;simp at hj);simp only[Option.some.injEq]at hp;subst hp;rw[Y4,Nat.zero_add,YS j hj];simp[hj]
theorem Sl.lenOf {n m:Nat} {v:Value} {cs:List Value} (s:Sl n h v m cs) {Q:Nat→Hp→Prop}:hw P (Builtin.lenOf v) Q h=Q m h:=by
 obtain⟨p,cap,rfl,_,_⟩:=s;rfl
theorem U9 (l r vs:List Value):Yw (l++r) l.length vs=l++Yw r 0 vs:=by
 induction l with
 | nil=>simp
 | cons x l ih=>
  cases vs with
  | nil=>simp[Yw]
  | cons v vs=>simp only[List.cons_append,List.length_cons,Yw];rw[ih]
theorem QA (r vs:List Value) (h:vs.length≤r.length):Yw r 0 vs=vs++r.drop vs.length:=by
 induction vs generalizing r with
 | nil=>simp[Yw]
 | cons v vs ih=>
  cases r with
  | nil=>simp at h
  | cons x r=>simp only[Yw,List.cons_append,List.length_cons,List.drop_succ_cons];rw[ih r (by simpa using h)]
theorem YM (z:Array Value) (n:Nat):(Builtin.zeroCells z n).size=n*z.size:=by simp[Builtin.zeroCells]
theorem Wa (UH cap bytes:Nat) (ZD:cap<UH) (hb:UH*bytes≤140737488355328):Builtin.nextslicecap UH cap*bytes≤281474976710656:=by
 have g1:∀(r c:Nat),UH≤c→Builtin.growBy UH r c=c:=by
  intro r c hc
  cases r with
  | zero=>rfl
  | succ r=>simp[Builtin.growBy,hc]
 have g2:∀(r c:Nat),c<UH→Builtin.growBy UH r c≤UH+(UH+768)/4:=by
  intro r
  induction r with
  | zero=>intro c hc;simp only[Builtin.growBy];omega
  | succ r ih=>
   intro c hc;simp only[Builtin.growBy];rw[if_neg (by omega)];by_cases h2:c+(c+768)/4<UH
   ·exact ih _ h2
   ·rw[g1 r _ (by omega)];omega
 have key:Builtin.nextslicecap UH cap≤2*UH+192:=by
  unfold Builtin.nextslicecap;split
  ·omega
  ·split
   ·omega
   ·have:=g2 4 cap ZD;omega
 have e1:Builtin.nextslicecap UH cap*bytes≤(2*UH+192)*bytes:=Nat.mul_le_mul_right _ key;unfold Builtin.nextslicecap;split
 ·omega
 ·rename_i h1;split
  ·have:2*cap*bytes≤2*UH*bytes:=Nat.mul_le_mul_right _ (by omega);have e:2*UH*bytes=2*(UH*bytes):=by rw[Nat.mul_assoc]
   omega
  ·rename_i h2;have hg:=g2 4 cap ZD;have h3:Builtin.growBy UH 4 cap*bytes≤(UH+(UH+768)/4)*bytes:=Nat.mul_le_mul_right _ hg;have h4:(UH+(UH+768)/4)*bytes≤(2*UH)*bytes:=Nat.mul_le_mul_right _ (by omega);have e:2*UH*bytes=2*(UH*bytes):=by rw[Nat.mul_assoc]
   omega
theorem Ke {sT xT E E' B n m k bytes:Nat} {v s:Value} {cs news zs:List Value} {cb:Array Bool} (UQ:JI P sT=some E) (Fa:P.underlying xT=some (.slice E')) (hn:tn P E=some n) (hz:tz P E=some zs) (Au:zs.length=n) (SQ:tb P E=some bytes)
  (own:Qv B E n h v m cs) (hB:B≤h.size) (src:Sl n h s k news) (Xc:news.all Z7=true) (Ys:(m+k)*bytes≤140737488355328) (Kf:1≤bytes)
  (H:∀v' h',Qv B E n h' v' (m+k) (cs++news)→Tv (ZO v) h h'→K v' h'):T9 P T .append #[sT,xT] ty cb [v,s] K h:=by
 unfold JI at UQ;split at UQ
 ·rename_i e' hu;simp only[Option.some.injEq]at UQ;subst UQ;show hw P (do pure (.value (←Builtin.append_ #[sT,xT] ty #[v,s]))) (Xy P T K) h;rw[Zg];show hw P (Builtin.append_ #[sT,xT] ty #[v,s]) K h;obtain⟨i0,T6⟩:∃i,P.info? e'=some i:=by
   unfold tn at hn
   cases hi:P.info? e' with
   | none=>rw[hi]at hn;cases hn
   | some i=>exact⟨i,rfl⟩
  have RW:i0.bytes=bytes:=by unfold tb at SQ;rw[T6]at SQ;simpa using SQ
  obtain⟨z0,Et,Av⟩:∃z,i0.zero=some z∧z.cells.toList=zs:=by
   unfold tz at hz;rw[T6]at hz
   cases Lt:i0.zero with
   | none=>rw[Option.bind_some,Lt]at hz;cases hz
   | some z=>rw[Option.bind_some,Lt]at hz;exact⟨z,rfl,by simpa using hz⟩
  have ub:∃base cap,v=.slice base m cap:=by
   rcases own with⟨⟨p,rfl⟩,rfl,_⟩|⟨b,cap,sp,_,rfl,_⟩
   ·exact⟨_,_,rfl⟩
   ·exact⟨_,_,rfl⟩
  obtain⟨base,cap,hv⟩:=ub;subst hv;have gK:∀{Q:Value→Hp→Prop} (g:Hp),hw P (zeroValue e') Q g=Q z0 g:=fun {Q} g=>by
   unfold zeroValue;rw[Zg,Xh T6];simp only[Et];rfl
  simp only[Builtin.append_,List.getElem?_toArray,List.getElem?_cons_zero,List.getElem?_cons_succ,Zg,Zw,Zu hu,Zu Fa,run_sizeOf hn,Bool.false_eq_true,if_false,src.lenOf,Bool.not_false,if_true];by_cases J4:m+k≤cap
  ·rw[if_pos J4,Zg];refine Z4 src ?_;have Wb:news.length=k*n:=by obtain⟨_,_,_,hl,_⟩:=src;exact hl
   by_cases YA:news=[]
   ·subst YA;have Kg:hw P (match base with|some a=>(do storeCells (a.add (m*n)) [];pure (Value.slice base (m+k) cap))|none=>pure (Value.slice base (m+k) cap)) K h=K (.slice base (m+k) cap) h:=by
     cases base<;>rfl
    have hK:K (.slice base (m+k) cap) h:=by
     refine H _ _ ?_ Tv.refl;rcases own with⟨⟨p,h1⟩,h2,h3⟩|⟨b,Kh,spare,Lv,h1,hb,hl,Ry,kR⟩
     ·simp only[Value.slice.injEq]at h1;obtain⟨rfl,rfl,rfl⟩:=h1;have hk:k=0:=by omega
      subst hk;subst h3;exact .inl ⟨⟨_,rfl⟩,rfl,rfl⟩
     ·simp only[Value.slice.injEq]at h1;obtain⟨rfl,_,rfl⟩:=h1;have kS:k*n=0:=by simpa using Wb.symm
      refine .inr ⟨b,cap,spare,Lv,rfl,by simpa using hb,by rw[List.append_nil,hl,Nat.add_mul,kS];rfl,?_,J4⟩;rw[Ry,Nat.sub_mul,Nat.sub_mul,Nat.add_mul,kS,Nat.add_zero]
    cases base<;>exact hK
   rcases own with⟨⟨p,h1⟩,h2,h3⟩|⟨b,Kh,spare,Lv,h1,hb,hl,Ry,kR⟩
   ·simp only[Value.slice.injEq]at h1;obtain⟨rfl,rfl,rfl⟩:=h1;have hk:k=0:=by omega
    subst hk;exact (YA (List.eq_nil_of_length_eq_zero (by simpa using Wb))).elim
   ·simp only[Value.slice.injEq]at h1;obtain⟨rfl,_,rfl⟩:=h1;simp only[Zg,Y4];have Ty:news.length≤spare.length:=by rw[Wb,Ry];exact Nat.mul_le_mul_right _ (by omega)
    refine Yk (e:=e') (lo:=0) (hi:=0) rfl (Nat.le_refl _) news 0 h (cs++spare).toArray hb ?_ Xc ?_
    ·simp;rw[←hl];omega
    ·simp only[Zw,Nat.zero_add,Nat.add_zero];refine H _ _ (.inr ⟨b,cap,spare.drop news.length,Lv,rfl,?_,?_,?_,J4⟩) ⟨by simp,fun b' XH hx=>?_⟩
     ·rw[Array.getElem?_setIfInBounds,if_pos rfl,if_pos (Za hb)];rw[←hl,U9,QA _ _ Ty,List.append_assoc]
     ·rw[List.length_append,hl,Wb,Nat.add_mul]
     ·rw[List.length_drop,Ry,Wb,←Nat.sub_mul];congr 1;omega
     ·rw[Array.getElem?_setIfInBounds,if_neg];intro e;subst e;have hcz:cap≠0:=by
       intro h0;subst h0;have:k=0:=by omega
       subst this;exact YA (List.eq_nil_of_length_eq_zero (by simpa using Wb))
      exact hx (by simp[ZO,hcz])
  ·rw[if_neg J4];have QO:¬Builtin.nextslicecap (m+k) cap*i0.bytes>2 ^ 48:=by
    rw[RW];have:=Wa (m+k) cap bytes (by omega) Ys;omega
   have Aw:¬i0.bytes=0:=by rw[RW];omega
   simp only[Zg,Xh T6,Aw,or_false,and_false,if_false,if_neg QO];intro t;obtain⟨c,hc⟩:=Zx (Question.cut (Question.appendCap (m+k) cap e') t);have nh:m+k≤c:=by rw[hc];simp only[Question.cut];omega
   rw[←hc];have RX:∀{Q:Unit→Hp→Prop} (b:Nat) (g:Hp),Q () g→hw P (askRoom b) Q g:=fun {Q} b g q=>by
    unfold askRoom;split<;>exact q
   refine RX _ _ (Z4 own.sl (Z4 src ?_));rw[gK];have nj:z0.cells.size=n:=by rw[←Au,←Av];simp
   refine H (.slice (some ⟨h.size,0,none⟩) (m+k) c) _ (.inr ⟨h.size,c,(Builtin.zeroCells z0.cells (c-(m+k))).toList,hB,rfl,?_,?_,?_,nh⟩) (Tv.push _)
   ·rw[Array.getElem?_push_size];simp
   ·have Wb:news.length=k*n:=by obtain⟨_,_,_,hl,_⟩:=src;exact hl
    have XW:cs.length=m*n:=by obtain⟨_,_,_,hl,_⟩:=own.sl;exact hl
    rw[List.length_append,XW,Wb,Nat.add_mul]
   ·rw[Array.length_toList,YM,nj]
 ·cases UQ
def bv (x:Nat):Value:=.int .u8 x
structure Bs (h:Hp) (v:Value) (l:List Nat):Prop where
 sl:Sl 1 h v l.length (l.map bv)
 byte:∀x∈l,x<256
structure Z0 (B:Nat) (E:TypeId) (h:Hp) (v:Value) (l:List Nat):Prop where
 own:Qv B E 1 h v l.length (l.map bv)
 byte:∀x∈l,x<256
theorem Z0.bs {B:Nat} {E:TypeId} {h:Hp} {v:Value} {l:List Nat} (s:Z0 B E h v l):Bs h v l:=⟨s.own.sl,s.byte⟩
theorem Bs.Z2 {h h':Hp} {v:Value} {l:List Nat} (s:Bs h v l) (a:Zf h.size h h'):Bs h' v l:=⟨s.sl.Z2 a,s.byte⟩
theorem Z0.Z2 {B C:Nat} {E:TypeId} {h h':Hp} {v:Value} {l:List Nat} (s:Z0 B E h v l) (a:Zf C h h') (hC:h.size≤C):Z0 B E h' v l:=⟨s.own.Z2 a hC,s.byte⟩
theorem Z0.mono {B B':Nat} {E:TypeId} {h:Hp} {v:Value} {l:List Nat} (s:Z0 B E h v l) (hB:B'≤B):Z0 B' E h v l:=⟨s.own.mono hB,s.byte⟩
theorem Z0.push {B:Nat} {E:TypeId} {h:Hp} {v:Value} {l:List Nat} (s:Z0 B E h v l) (o:Obj):Z0 B E (h.push o) v l:=⟨s.own.push o,s.byte⟩
theorem Z0.nil (B:Nat) (E:TypeId) (h:Hp):Z0 B E h (.slice none 0 0) []:=⟨Qv.nil B E 1 h,fun _ h=>by cases h⟩
theorem TA (l:List Nat):(l.map bv).all Z7=true:=by simp[bv,Z7]
theorem Bs.open {v:Value} {l:List Nat} (s:Bs h v l):∃p cap,v=.slice p l.length cap∧(l≠[]→∃b o,p=some ⟨b,o,none⟩∧b<h.size∧∀i (hi:i<l.length),hc h ⟨b,o+i,none⟩=some (.int .u8 (l[i]:Nat))):=by
 obtain⟨⟨p,cap,hv,_,hc⟩,_⟩:=s;refine⟨p,cap,hv,fun YA=>?_⟩;obtain⟨b,o,hp,YS⟩:=hc (by simpa using YA);refine⟨b,o,hp,?_,fun i hi=>?_⟩
 ·exact Uq (YS 0 (by simpa using List.length_pos_iff.2 YA))
 ·have:=YS i (by simpa using hi)
  simpa [bv] using this
end
attribute [go_sem] ui ZaD uj ZaE uk mo fY um uo mi mj fX mm BS mg BP BR EJ mf
 WQ ZaK mC gk uA fR Zi gm uB IW QX Aa gn cl gq gu HM L9 mD Ab EN G6 I5
 Ka Ad EO Kb Af EP uD gv gx Kc G7 gy Ag
 mE mF mG mH mI mJ uE mK ER mL mM mN mO mP mQ mR mS uF uG uH gz ES
 gC gD G8 I6 uI uJ mq BU BV EK ZaF uq kQ mw BW mz BX mA fZ BY gd EL ZaG uw gh gj EM L6 uy G0 uz ZaI mB ZaJ RY
 LX JH RS Option.map_some Option.bind_some Option.isSome_some decide_eq_true_eq decide_eq_false_iff_not
attribute [go_sem] gF Ah ET gG I7 Ai G9 Aj Kd I8 Ak EU gH mV Am mW uK ZaL An Ao Ap Aq Ar mZ As m7 nc
 nf gI uL uM uN gJ ZaM SV dk At ng uO BI dg nth Yw BJ Lq Z7 List.toList_toArray List.length_cons List.length_nil List.drop_succ_cons List.drop_zero List.take_succ_cons List.take_zero List.set_cons_zero List.set_cons_succ
 List.all_cons List.all_nil Bool.and_true Array.size_push Nat.zero_add List.take_nil List.drop_nil
def vi:Value→Int|.int _ n=>n|_=>0
theorem Yl {α:Type} (l:List α) (i:Nat) (hi:i<l.length):l.take (i+1)=l.take i++[l[i]]:=List.take_succ_eq_append_getElem hi
def w64 (n:Int):Int:=IntKind.i64.wrap n
theorem Ax (n:Int):IntKind.i64.wrap n=if -9223372036854775808≤n∧n≤9223372036854775807 then n else w64 n:=by
 split
 ·rename_i h;exact IntWalk.i64_in n h
 ·rfl
theorem EW (n:Int):IntKind.u8.wrap n=n%256:=by simp[IntKind.wrap,IntKind.bits,IntKind.signed]
theorem Oc (n:Int):IntKind.u32.wrap n=n%4294967296:=by simp[IntKind.wrap,IntKind.bits,IntKind.signed]
theorem Od (n:Int):IntKind.u64.wrap n=n%18446744073709551616:=by simp[IntKind.wrap,IntKind.bits,IntKind.signed]
attribute [go_sem] Ax EW Oc Od true_and and_true ne_eq not_true_eq_false not_false_eq_true decide_true decide_false Bool.false_eq_true Int.toNat_natCast Nat.mul_one
theorem Nk (w a:Nat):BitVec.ofInt w (a:Int)=BitVec.ofNat w a:=by
 apply BitVec.eq_of_toNat_eq;simp[BitVec.toNat_ofNat]
theorem VP (k:IntKind) (n:Nat) (h:n<2 ^ (if k.signed then k.bits-1 else k.bits)):k.wrap (n:Int)=n:=by
 cases k<;>simp[IntKind.wrap,IntKind.bits,IntKind.signed]at h ⊢<;>omega
theorem SW (k:IntKind) (a b:Nat) (ha:a<2 ^ (if k.signed then k.bits-1 else k.bits)) (hb:b<2 ^ (if k.signed then k.bits-1 else k.bits)):Yc .and k a b=((a &&& b:Nat):Int):=by
 have hle:2 ^ (if k.signed then k.bits-1 else k.bits)≤2 ^ k.bits:=Nat.pow_le_pow_right (by omega) (by split<;>omega);simp only[Yc,Nk];rw[BitVec.toNat_and,BitVec.toNat_ofNat,BitVec.toNat_ofNat,Nat.mod_eq_of_lt (by omega),Nat.mod_eq_of_lt (by omega)];exact VP k _ (Nat.lt_of_le_of_lt Nat.and_le_left ha)
theorem Oe (k:IntKind) (a b:Nat) (ha:a<2 ^ (if k.signed then k.bits-1 else k.bits)) (hb:b<2 ^ (if k.signed then k.bits-1 else k.bits)):Yc .or k a b=((a ||| b:Nat):Int):=by
 have hle:2 ^ (if k.signed then k.bits-1 else k.bits)≤2 ^ k.bits:=Nat.pow_le_pow_right (by omega) (by split<;>omega);simp only[Yc,Nk];rw[BitVec.toNat_or,BitVec.toNat_ofNat,BitVec.toNat_ofNat,Nat.mod_eq_of_lt (by omega),Nat.mod_eq_of_lt (by omega)];exact VP k _ (Nat.or_lt_two_pow ha hb)
theorem HN (k:IntKind) (a b:Nat) (ha:a<2 ^ (if k.signed then k.bits-1 else k.bits)) (hb:b<2 ^ (if k.signed then k.bits-1 else k.bits)):Yc .xor k a b=((a ^^^ b:Nat):Int):=by
 have hle:2 ^ (if k.signed then k.bits-1 else k.bits)≤2 ^ k.bits:=Nat.pow_le_pow_right (by omega) (by split<;>omega);simp only[Yc,Nk];rw[BitVec.toNat_xor,BitVec.toNat_ofNat,BitVec.toNat_ofNat,Nat.mod_eq_of_lt (by omega),Nat.mod_eq_of_lt (by omega)];exact VP k _ (Nat.xor_lt_two_pow ha hb)
theorem nk (a b:Nat) (ha:a<256) (hb:b<256):Yc .and .u8 a b=((a &&& b:Nat):Int):=SW .u8 a b ha hb
theorem Zej (a b:Nat) (ha:a<256) (hb:b<256):Yc .or .u8 a b=((a ||| b:Nat):Int):=Oe .u8 a b ha hb
theorem Fb (a b:Nat) (ha:a<256) (hb:b<256):Yc .xor .u8 a b=((a ^^^ b:Nat):Int):=HN .u8 a b ha hb
theorem Of (a b:Nat) (ha:a<4294967296) (hb:b<4294967296):Yc .and .u32 a b=((a &&& b:Nat):Int):=SW .u32 a b ha hb
theorem Sc (a b:Nat) (ha:a<4294967296) (hb:b<4294967296):Yc .or .u32 a b=((a ||| b:Nat):Int):=Oe .u32 a b ha hb
theorem J6 (a b:Nat) (ha:a<4294967296) (hb:b<4294967296):Yc .xor .u32 a b=((a ^^^ b:Nat):Int):=HN .u32 a b ha hb
theorem uP (a b:Nat) (ha:a<18446744073709551616) (hb:b<18446744073709551616):Yc .and .u64 a b=((a &&& b:Nat):Int):=SW .u64 a b ha hb
theorem Ay (a b:Nat) (ha:a<18446744073709551616) (hb:b<18446744073709551616):Yc .or .u64 a b=((a ||| b:Nat):Int):=Oe .u64 a b ha hb
theorem uQ (a b:Nat) (ha:a<9223372036854775808) (hb:b<9223372036854775808):Yc .and .i64 a b=((a &&& b:Nat):Int):=SW .i64 a b ha hb
theorem RZ (a b:Nat) (ha:a<9223372036854775808) (hb:b<9223372036854775808):Yc .or .i64 a b=((a ||| b:Nat):Int):=Oe .i64 a b ha hb
theorem SX (k:IntKind) (a n:Nat) (hn:n≤k.bits):YV k a n=((a >>> n:Nat):Int):=by
 simp only[YV,Int.toNat_natCast,Nat.min_eq_left hn];rw[Int.fdiv_eq_ediv_of_nonneg _ (Int.le_of_lt (Int.pow_pos (by omega))),Nat.shiftRight_eq_div_pow];simp
theorem Fc (k:IntKind) (a n:Nat) (hn:n≤k.bits):YL k a n=k.wrap ((a*2 ^ n:Nat):Int):=by
 simp only[YL,Int.toNat_natCast,Nat.min_eq_left hn];simp
theorem Fe (a b:Nat):a ^^^ b=0↔a=b:=by
 constructor
 ·intro h;have h2:a ^^^ b ^^^ b=0 ^^^ b:=by rw[h]
  rwa [Nat.xor_assoc,Nat.xor_self,Nat.xor_zero,Nat.zero_xor]at h2
 ·intro h;subst h;exact Nat.xor_self a
theorem EX (a b:Nat):a ||| b=0↔a=0∧b=0:=by
 simp
open Go.ChangeShapes Go.WideShapes Go.ChangeAt Go.RowKit
def fit (P:Program) (h:Hp):Nat→TypeId→List Value→Prop
 | 0,_,_=>False
 | k+1,t,cs=>
  match P.underlying t with
  | some .bool=>∃b,cs=[.bool b]
  | some (.int i)=>∃n,cs=[.int i n]∧(Lit.int i n).wf=true
  | some .string=>∃s,cs=[.string s]∧s.size≤reachBytes
  | some (.slice e)=>∃p len cap,cs=[.slice p len cap]∧len≤cap∧cap*P.bytesOf e≤reachBytes ∧
    (len≠0→P.cellsOf e≠0→∃b o,p=some ⟨b,o,none⟩∧b<h.size∧∀i,i<len→∃ds,ds.length=P.cellsOf e∧YY h b (o+i*P.cellsOf e) ds∧fit P h k e ds)
  | some (.struct fs)=>cs.length=P.cellsOf t∧∀f∈fs.toList,fit P h k f.type ((cs.drop f.offset).take (P.cellsOf f.type))
  | some (.array n e)=>cs.length=P.cellsOf t∧∀i,i<n→fit P h k e ((cs.drop (i*P.cellsOf e)).take (P.cellsOf e))
  | _=>True
def gL (P:Program) (h:Hp) (k:Nat) (t:TypeId) (v:Value):Prop:=
 match ta P t with
 | some true=>∃cs:List Value,v=.agg cs.toArray∧fit P h k t cs
 | _=>fit P h k t [v]
def fitAll (P:Program) (h:Hp):List TypeId→List Value→Prop
 | [],[]=>True
 | t :: ts,v :: vs=>(∃k,gL P h k t v)∧fitAll P h ts vs
 | _,_=>False
theorem VQ {α β:Type} {f:α→Option β}:∀{l:List α} {r:List β},l.mapM f=some r→r.length=l.length∧∀(i:Nat) (x:α) (y:β),l[i]? = some x→r[i]? = some y→f x=some y
 | [],r,h=>by
  simp only[List.mapM_nil,pure,Option.some.injEq]at h;subst h;exact⟨rfl,fun i x y hx _=>by simp at hx⟩
 | a :: l,r,h=>by
  rw[List.mapM_cons]at h
  cases ha:f a with
  | none=>rw[ha]at h;cases h
  | some b=>
   rw[ha]at h
   cases hl:l.mapM f with
   | none=>simp[hl]at h
   | some bs=>
    simp[hl]at h;subst h;obtain⟨h1,h2⟩:=VQ hl;refine⟨by simp[h1],fun i x y hx hy=>?_⟩
    cases i with
    | zero=>simp at hx hy;subst hx;subst hy;exact ha
    | succ i=>simp at hx hy;exact h2 i x y hx hy
theorem Ki {w:World} {base:Nat} {a:Addr} {n:Nat} {ds:List Value} (h:w.cells? base a n=some ds):ds.length=n∧∀i (hi:i<ds.length),w.cell? (a.add i)=some ds[i]:=by
 unfold World.cells? at h;split at h
 ·obtain⟨h1,h2⟩:=VQ h;rw[List.length_range]at h1;refine⟨h1,fun i hi=>h2 i i ds[i] ?_ ?_⟩
  ·rw[List.getElem?_range (by omega)]
  ·exact List.getElem?_eq_getElem hi
 ·cases h
theorem gM {w:World} {a:Addr} {i:Nat} {v:Value} (h:w.cell? (a.add i)=some v) (hi:i=0):a.spot=none:=by
 subst hi;have e:a.add 0=a:=by simp[Addr.add]
 rw[e]at h;unfold World.cell? at h;split at h
 ·split at h
  ·cases h
  ·rename_i hs;simpa using hs
 ·cases h
theorem TW {H:Type} {P:Program} {q:Nat→Bool}:∀(ts:List TypeId) (ds:List (DataW H)),(DataW.weightsEach P ts ds).all q=true→∀(i:Nat) (t:TypeId) (d:DataW H),ts[i]? = some t→ds[i]? = some d→(d.weights P t).all q=true
 | [],_,_,i,t,d,ht,_=>by simp at ht
 | t :: ts,[],_,i,t',d,_,hd=>by simp at hd
 | t :: ts,d :: ds,h,i,t',d',ht,hd=>by
  simp only[DataW.weightsEach,List.all_append,Bool.and_eq_true]at h
  cases i with
  | zero=>simp at ht hd;subst ht;subst hd;exact h.1
  | succ i=>simp at ht hd;exact TW ts ds h.2 i t' d' ht hd
theorem Wc {H:Type} {P:Program} {e:TypeId} {q:Nat→Bool}:∀(ds:List (DataW H)),(DataW.weightsAll P e ds).all q=true→∀(i:Nat) (d:DataW H),ds[i]? = some d→(d.weights P e).all q=true
 | [],_,i,d,hd=>by simp at hd
 | d :: ds,h,i,d',hd=>by
  simp only[DataW.weightsAll,List.all_append,Bool.and_eq_true]at h
  cases i with
  | zero=>simp at hd;subst hd;exact h.1
  | succ i=>simp at hd;exact Wc ds h.2 i d' hd
theorem WS {H:Type} {enc:TypeId × Value→H} {P:Program} {w:World}:∀(k:Nat) (t:TypeId) (cs:List Value) (d:DataW H) (ps:List MemPlace),
  DataW.trod enc P w 0 (fun _=>true) true k t cs=some (d,ps)→(d.weights P t).all (· ≤ reachBytes)=true→fit P w.heap k t cs
 | 0,t,cs,d,ps,h,_=>by simp[DataW.trod]at h
 | k+1,t,cs,d,ps,h,hw=>by
  unfold DataW.trod at h;unfold fit;split at h
  ·rename_i hu;rw[hu];exact⟨_,rfl⟩
  ·rename_i i i' n hu;rw[hu];split at h
   ·rename_i hc;obtain⟨rfl,hc⟩:=hc;exact⟨_,rfl,hc⟩
   ·cases h
  ·rename_i hu;rw[hu];trivial
  ·rename_i s hu;rw[hu];split at h
   ·simp only[Option.some.injEq,Prod.mk.injEq]at h;obtain⟨rfl,_⟩:=h;refine⟨_,rfl,?_⟩
    simpa [DataW.weights] using hw
   ·cases h
  ·rename_i hu;rw[hu];trivial
  ·rename_i hu;rw[hu];trivial
  ·rename_i e hu;rw[hu];exact⟨_,_,_,rfl,Nat.le_refl _,by simp,fun h=>(h rfl).elim⟩
  ·rename_i e a len cap hu;rw[hu];split at h
   ·rename_i PZ;simp only[if_true]at h
    cases he:((List.range len).mapM fun i=>(w.cells? 0 (a.add (i*P.cellsOf e)) (P.cellsOf e)).bind (DataW.trod enc P w 0 (fun _=>true) true k e)) with
    | none=>rw[he]at h;cases h
    | some elems=>
     rw[he]at h;simp only[Option.bind_some]at h
     cases hr:((List.range (cap-len)).mapM fun j=>(w.cells? 0 (a.add ((len+j)*P.cellsOf e)) (P.cellsOf e)).bind (DataW.trod enc P w 0 (fun _=>true) true k e)) with
     | none=>rw[hr]at h;cases h
     | some rest=>
      rw[hr]at h;simp only[Option.map_some,Option.some.injEq,Prod.mk.injEq]at h;obtain⟨rfl,_⟩:=h;obtain⟨l1,g1⟩:=VQ he;obtain⟨l2,_⟩:=VQ hr;rw[List.length_range]at l1 l2;simp only[DataW.weights,hu,List.all_cons,List.all_append,Bool.and_eq_true,List.length_map,decide_eq_true_eq]at hw;refine⟨_,_,_,rfl,PZ.2.1,?_,fun hlen hce=>?_⟩
      ·have:elems.length+rest.length=cap:=by omega
       rw[←this];exact hw.1
      ·have Zek:∀i,i<len→∃ds x,w.cells? 0 (a.add (i*P.cellsOf e)) (P.cellsOf e)=some ds∧elems[i]? = some x∧DataW.trod enc P w 0 (fun _=>true) true k e ds=some x:=by
        intro i hi;have hx:elems[i]? = some elems[i]:=List.getElem?_eq_getElem (by omega);have:=g1 i i elems[i] (by rw[List.getElem?_range hi]) hx
        cases hc:w.cells? 0 (a.add (i*P.cellsOf e)) (P.cellsOf e) with
        | none=>rw[hc]at this;cases this
        | some ds=>rw[hc]at this;exact⟨ds,_,rfl,hx,this⟩
       obtain⟨ds0,x0,dm,_,_⟩:=Zek 0 (by omega);obtain⟨q1,q2⟩:=Ki dm;have e0:a.add (0*P.cellsOf e)=a:=by simp[Addr.add]
       rw[e0]at q2;have Ry:a.spot=none:=gM (q2 0 (by omega)) rfl;have ZaO:w.cell? a=some ds0[0]:=by have:=q2 0 (by omega);simpa [Addr.add] using this
       have ZD:a.block<w.heap.size:=Uq (h:=w.heap) (p:=a) (v:=ds0[0]) ZaO;refine⟨a.block,a.off,?_,ZD,fun i hi=>?_⟩
       ·obtain⟨b,o,s⟩:=a;simp only at Ry;subst Ry;rfl
       ·obtain⟨ds,x,hc,hx,ht⟩:=Zek i hi;obtain⟨r1,r2⟩:=Ki hc;refine⟨ds,r1,fun j hj=>?_,?_⟩
        ·have:=r2 j hj;rw[SP a _ Ry,Y4]at this;exact this
        ·refine WS k e ds x.1 x.2 ht ?_;exact Wc _ hw.2.1 i x.1 (by rw[List.getElem?_map,hx];rfl)
   ·cases h
  ·rename_i cs _ _ fs hu;rw[hu];split at h
   ·rename_i hlen
    cases hm:(fs.toList.mapM fun f=>DataW.trod enc P w 0 (fun _=>true) true k f.type ((cs.drop f.offset).take (P.cellsOf f.type))) with
    | none=>rw[hm]at h;cases h
    | some xs=>
     rw[hm]at h;simp only[Option.map_some,Option.some.injEq,Prod.mk.injEq]at h;obtain⟨rfl,_⟩:=h;obtain⟨l1,g1⟩:=VQ hm;refine⟨hlen,fun f hf=>?_⟩;obtain⟨i,hi,EE⟩:=List.mem_iff_getElem.1 hf;have hx:xs[i]? = some xs[i]:=List.getElem?_eq_getElem (by omega);have Zel:fs.toList[i]? = some f:=by rw[List.getElem?_eq_getElem hi,EE]
     refine WS k _ _ xs[i].1 xs[i].2 (g1 i f xs[i] Zel hx) ?_;simp only[DataW.weights,hu]at hw;exact TW _ _ hw i f.type xs[i].1 (by rw[List.getElem?_map,Zel];rfl) (by rw[List.getElem?_map,hx];rfl)
   ·cases h
  ·rename_i cs _ _ n e hu;rw[hu];split at h
   ·rename_i hlen
    cases hm:((List.range n).mapM fun i=>DataW.trod enc P w 0 (fun _=>true) true k e ((cs.drop (i*P.cellsOf e)).take (P.cellsOf e))) with
    | none=>rw[hm]at h;cases h
    | some xs=>
     rw[hm]at h;simp only[Option.map_some,Option.some.injEq,Prod.mk.injEq]at h;obtain⟨rfl,_⟩:=h;obtain⟨l1,g1⟩:=VQ hm;rw[List.length_range]at l1;refine⟨hlen,fun i hi=>?_⟩;have hx:xs[i]? = some xs[i]:=List.getElem?_eq_getElem (by omega);refine WS k _ _ xs[i].1 xs[i].2 (g1 i i xs[i] (by rw[List.getElem?_range hi]) hx) ?_;simp only[DataW.weights,hu]at hw;exact Wc _ hw i xs[i].1 (by rw[List.getElem?_map,hx];rfl)
   ·cases h
  all_goals first|(cases h;done)|(rename_i hu;rw[hu];trivial)
theorem uR {P:Program} {w:World} {r:Reach} {base:Nat} {t:TypeId} {cs:Array Value} (ha:ta P t=some false) (h:Value.okWide P w r base t (.agg cs)):False:=by
 unfold ta at ha;unfold Value.okWide at h
 cases hu:P.underlying t with
 | none=>rw[hu]at ha;cases ha
 | some d=>
  rw[hu]at ha h
  cases d<;>simp at ha<;>simp[Cell.okWide,Cell.ok,hu]at h
theorem uS {H:Type} {enc:TypeId × Value→H} {P:Program} {w:World} {r:Reach} {base:Nat} {t:TypeId} {v:Value} {d:DataW H} {ps:List MemPlace}
  (Bt:(ta P t).isSome=true) (J2:Value.okWide P w r base t v) (h:DataW.Trod enc P w 0 (fun _=>true) true t v d ps) (hw:(d.weights P t).all (· ≤ reachBytes)=true):∃k,gL P w.heap k t v:=by
 obtain⟨k,hk⟩:=h;have hf:=WS k t _ d ps hk hw;refine⟨k,?_⟩;unfold gL
 cases ha:ta P t with
 | none=>rw[ha]at Bt;cases Bt
 | some b=>
  cases b with
  | true=>
   unfold ta at ha;unfold Value.okWide at J2
   cases hu:P.underlying t with
   | none=>rw[hu]at ha;cases ha
   | some d'=>
    rw[hu]at ha J2;have:∃cs,v=.agg cs:=by
     cases d'<;>simp at ha<;>(obtain⟨cs,hv,_⟩:=J2;exact⟨cs,hv⟩)
    obtain⟨cs,rfl⟩:=this;exact⟨cs.toList,by simp,hf⟩
  | false=>
   have:v.cells.toList=[v]:=by
    cases v with
    | agg cs=>exact (uR ha J2).elim
    | _=>rfl
   rw[this]at hf;exact hf
theorem HP {H:Type} {enc:TypeId × Value→H} {P:Program} {w:World} {base:Nat}:∀(ts:List TypeId) (vs:List Value) (ds:List (DataW H)) (ps:List MemPlace),
  ts.all (fun t=>(ta P t).isSome)=true→(∀(j:Nat) t v,ts[j]? = some t→vs[j]? = some v→Value.okWide P w .any base t v)→DataW.TrodAll enc P w 0 (fun _=>true) true ts vs ds ps →
  (DataW.weightsEach P ts ds).all (· ≤ reachBytes)=true→fitAll P w.heap ts vs
 | [],vs,ds,ps,_,_,h,_=>by
  obtain⟨rfl,rfl,rfl⟩:=trodAll_nil h;trivial
 | t :: ts,vs,ds,ps,ha,hv,h,hw=>by
  obtain⟨v,yX,d,ds',p,q,rfl,rfl,rfl,h1,h2⟩:=trodAll_cons h;simp only[List.all_cons,Bool.and_eq_true]at ha;simp only[DataW.weightsEach,List.all_append,Bool.and_eq_true]at hw;exact⟨uS ha.1 (hv 0 t v rfl rfl) h1 hw.1,HP ts yX ds' q ha.2 (fun j t v ht EY=>hv (j+1) t v ht EY) h2 hw.2⟩
theorem Rz {H:Type} {enc:TypeId × Value→H} {P:Program} (hl:laidOutB P=true) {W W':World} (hb:Below W.heap.size W W'):∀(ts:List TypeId) (vs:List Value) (ds:List (DataW H)) (ps:List MemPlace),
  ts.all (fun t=>P.readableRec t&&decide (t<P.types.size))=true→DataW.TrodAll enc P W 0 (fun _=>true) true ts vs ds ps→(∀x∈ps,x.block<W.heap.size) →
  DataW.TrodAll enc P W' 0 (fun b=>decide (b<W.heap.size)) true ts vs ds ps
 | [],vs,ds,ps,_,h,_=>by
  obtain⟨rfl,rfl,rfl⟩:=trodAll_nil h;rfl
 | t :: ts,vs,ds,ps,ha,h,ZD=>by
  obtain⟨v,yX,d,ds',p,q,rfl,rfl,rfl,h1,h2⟩:=trodAll_cons h;simp only[List.all_cons,Bool.and_eq_true,decide_eq_true_eq]at ha;exact⟨p,q,Below.trod hl ha.1.1 ha.1.2 h1 hb (fun x hx=>ZD x (by simp[hx])),Rz hl hb ts yX ds' q ha.2 h2 (fun x hx=>ZD x (by simp[hx])),rfl⟩
theorem Sd {H:Type} {enc:TypeId × Value→H} {P:Program} {w:World} {b:Nat} {sp:Nat→Bool} {hd:Bool}:∀(ts:List TypeId) (vs:List Value) (ds:List (DataW H)) (ps:List MemPlace),DataW.TrodAll enc P w b sp hd ts vs ds ps→ds.length=ts.length
 | [],vs,ds,ps,h=>by obtain⟨rfl,rfl,rfl⟩:=trodAll_nil h;rfl
 | t :: ts,vs,ds,ps,h=>by
  obtain⟨v,yX,d,ds',p,q,rfl,rfl,rfl,h1,h2⟩:=trodAll_cons h;simp[Sd ts yX ds' q h2]
theorem np {W W':World} {h':Hp} (hs:Vl W W' h') (hb:Zf W.heap.size W.heap h'):Below W.heap.size W W':=
 ⟨hs.os,hs.tape,hs.output,by rw[hs.heap];exact hb.size,fun k hk=>by rw[hs.heap];exact hb.block k hk⟩
theorem nq {P:Program} {rest:List (List Char)} (h:behindMainWord (wordsSigns P.initOrder.toList) = "cut".toList :: rest):P.make=some .cut:=by
 unfold Program.make;rw[h];simp only;rw[if_neg (by decide),if_pos (by rfl)]
theorem HQ (rest:List (List Char)):stripLifts liftWords ("cut".toList :: rest)=([], "cut".toList :: rest):=by rfl
theorem gN {P:Program} {rest:List (List Char)} (h:behindMainWord (wordsSigns P.initOrder.toList) = "cut".toList :: rest):P.liftsFinal=false:=by
 unfold Program.liftsFinal Program.headLifts;rw[h,HQ];rfl
theorem gO {P:Program} {rest:List (List Char)} (h:behindMainWord (wordsSigns P.initOrder.toList) = "cut".toList :: rest) (h1:P.laysLater=false) (h2:P.bearsReflect=false) (h3:P.doorFits []=true):P.mayEnter=true:=by
 unfold Program.mayEnter;rw[h];simp only[HQ,h1,h2,h3];rw[Bool.or_eq_true];exact .inr rfl
theorem gP {P:Program} {L:List Char} (h:P.initOrder=String.ofList L) (h2:((behindMainWord (wordsSigns L)).head? == some "cut".toList)=true):∃rest,behindMainWord (wordsSigns P.initOrder.toList) = "cut".toList :: rest:=by
 rw[h,String.toList_ofList]
 revert h2
 cases behindMainWord (wordsSigns L) with
 | nil=>intro h;cases h
 | cons a l=>
  intro h;have h':a = "cut".toList:=by
   have:=eq_of_beq h
   simpa using this
  exact⟨l,by rw[h']⟩
end Go.V
