/- V1: a small calculus of weakest preconditions on heaps (arrays of objects), over the model's own rules: what draws is 'for all', and a function's frame is a function of slots. -/
import Derived.Calls
import Derived.OrdersHeld
import Derived.Still
import Derived.Tactics
import Derived.Laws.Sem
import Derived.KernelRfl
import Derived.IntWalk
import Derived.Laws.Strings
import Derived.WalkKit
import Derived.ProofKit
import Derived.OpenShut
import Derived.SizedLaws
import Derived.JoinedCond
import Derived.Deep.CondSized
import Derived.Carry
namespace Go.V
theorem Zy {α:Type} (x:α):∃y,y=x:=⟨x,rfl⟩
abbrev Env:=Nat→Value
def upd (F:Env) (d:Nat) (v:Value):Env:=fun t=>if t=d then v else F t
def Z4 (F:Env):Option Nat→Value→Env
 | none,_=>F
 | some d,v=>upd F d v
def ev (F:Env):Operand→Value
 | .tmp t=>F t
 | .const v=>v
 | .global g=>.pointer (some ⟨g,0,none⟩)
 | .func f=>.func (.func f) #[] #[]
def IP:List Value→Nat→Env
 | [],_=>fun _=>undef
 | v :: l,k=>upd (IP l (k+1)) k v
def env (a:Act):Env:=fun t=>a.tmps.getD t undef
theorem EA (a:Act):a.eval=ev (env a):=by
 funext x;cases x<;>rfl
theorem Lh (a:Act) (dst:Option Nat) (v:Value) (h:∀d,dst=some d→d<a.tmps.size):env (a.put dst v)=Z4 (env a) dst v:=by
 cases dst with
 | none=>rfl
 | some d=>
  funext t
  have hd:=h d rfl;simp only[env,Act.put,Z4,upd,Array.getD_eq_getD_getElem?,Array.getElem?_setIfInBounds];by_cases htd:d=t
  ·subst htd;simp[hd]
  ·rw[if_neg htd,if_neg (fun h=>htd h.symm)]
theorem PD (a:Act) (dst:Option Nat) (v:Value):(a.put dst v).tmps.size=a.tmps.size:=by
 cases dst<;>simp[Act.put]
abbrev Hp:=Array Obj
structure Vl (T:World) (w:World) (h:Hp):Prop where
 heap:w.heap=h
 tape:w.tape=T.tape
 os:w.os=T.os
 output:w.output=T.output
def hc (h:Hp) (a:Addr):Option Value:=
 match h[a.block]? with
 | some (.cells c _ _)=>if a.spot.isSome then none else c[a.off]?
 | _=>none
def Wa (h:Hp) (r:Nat):Option (TypeId × Nat):=
 match h[r]? with
 | some (.cells c elem _)=>some (elem,c.size)
 | _=>none
def lL (h:Hp) (a:Addr):Bool:=
 match h[a.block]? with
 | some (.cells _ _ (lo,hi))=>lo≤a.off&&a.off<hi
 | _=>false
def fL (h:Hp) (a:Addr) (v:Value):Hp:=
 h.modify a.block fun
  | .cells c elem frozen=>.cells (if a.spot.isSome then c else c.setIfInBounds a.off v) elem frozen
  | o=>o
def Tp (h:Hp) (a:Addr) (n:Nat):Hp:=
 if n=0 then h else
 h.modify a.block fun
  | .cells c elem (lo,hi)=>.cells c elem (if lo == hi then (a.off,a.off+n) else (min lo a.off,max hi (a.off+n)))
  | o=>o
def Li:Obj→Bool
 | .cells .. => true
 | _=>false
def Z6:Value→Bool
 | .agg _|.tuple _=>false
 | _=>true
def hw {α:Type} (P:Program):Sem α→(α→Hp→Prop)→Hp→Prop
 | .pure a,Q,h=>Q a h
 | .load _ a k,Q,h=>∃v,hc h a=some v∧hw P (k v) Q h
 | .store _ a v k,Q,h=>Z6 v=true∧(∃u,hc h a=some u)∧lL h a=false∧hw P k Q (fL h a v)
 | .new o k,Q,h=>hw P (k h.size) Q (h.push o)
 | .shape r k,Q,h=>hw P (k (Wa h r)) Q h
 | .freeze a n k,Q,h=>hw P k Q (Tp h a n)
 | .frozen a k,Q,h=>hw P (k (lL h a)) Q h
 | .getObj r k,Q,h=>∃o,h[r]? = some o∧Li o=false∧hw P (k o) Q h
 | .setObj r o k,Q,h=>(∃o',h[r]? = some o'∧Li o'=false)∧hw P k Q (h.setIfInBounds r o)
 | .choose q k,Q,h=>if q.forced then hw P (k 0) Q h else ∀t,hw P (k (q.cut t)) Q h
 | .sys _ _,_,_=>False
 | .program k,Q,h=>hw P (k P) Q h
 | .mark _ k,Q,h=>hw P k Q h
 | .halt _,_,_=>False
theorem lP {α:Type} {P:Program} {T:World}:∀(s:Sem α) (Q:α→Hp→Prop) (h:Hp),hw P s Q h→∀w,Vl T w h →
  ∃a w' h',s.run P w=.ok a w'∧Vl T w' h'∧Q a h':=by
 intro s
 induction s with
 | pure a=>intro Q h H w hs;exact⟨a,w,h,rfl,hs,H⟩
 | load m a k ih=>
  intro Q h H w hs;obtain⟨v,hv,H⟩:=H;obtain⟨a',w',h',hr,r⟩:=ih v Q h H w hs;refine⟨a',w',h',?_,r⟩;have:w.cell? a=some v:=by rw[World.cell?,hs.heap];exact hv
  rw[Sem.run,this];exact hr
 | store m a v k ih=>
  intro Q h H w hs;obtain⟨h1,⟨u,h2⟩,h3,H⟩:=H;have NX:Vl T (w.setCell a v) (fL h a v):=⟨by simp only[World.setCell,fL,hs.heap];rfl,hs.tape,hs.os,hs.output⟩
  obtain⟨a',w',h',hr,r⟩:=ih Q _ H _ NX;refine⟨a',w',h',?_,r⟩;have e1:w.cell? a=some u:=by rw[World.cell?,hs.heap];exact h2
  have e2:w.frozen? a=false:=by rw[World.frozen?,hs.heap];exact h3
  cases v<;>first|(simp[Z6]at h1;done)|(simp only[Sem.run,e1,e2,Bool.false_eq_true,if_false];exact hr)
 | new o k ih=>
  intro Q h H w hs;have NX:Vl T { w with heap:=w.heap.push o } (h.push o):=⟨by simp only[hs.heap],hs.tape,hs.os,hs.output⟩
  have e:w.heap.size=h.size:=by rw[hs.heap]
  obtain⟨a',w',h',hr,r⟩:=ih h.size Q _ H _ NX;refine⟨a',w',h',?_,r⟩;rw[Sem.run,e];exact hr
 | shape r k ih=>
  intro Q h H w hs;obtain⟨a',w',h',hr,r'⟩:=ih _ Q h H w hs;refine⟨a',w',h',?_,r'⟩;have:w.shape? r=Wa h r:=by rw[World.shape?,hs.heap];rfl
  rw[Sem.run,this];exact hr
 | freeze a n k ih=>
  intro Q h H w hs;have NX:Vl T (w.freeze a n) (Tp h a n):=by
   unfold World.freeze Tp;split
   ·exact hs
   ·exact⟨by simp only[hs.heap];rfl,hs.tape,hs.os,hs.output⟩
  obtain⟨a',w',h',hr,r'⟩:=ih Q _ H _ NX;exact⟨a',w',h',by rw[Sem.run];exact hr,r'⟩
 | frozen a k ih=>
  intro Q h H w hs;obtain⟨a',w',h',hr,r'⟩:=ih _ Q h H w hs;refine⟨a',w',h',?_,r'⟩;have:w.frozen? a=lL h a:=by rw[World.frozen?,hs.heap];rfl
  rw[Sem.run,this];exact hr
 | getObj r k ih=>
  intro Q h H w hs;obtain⟨o,ho,hc,H⟩:=H;obtain⟨a',w',h',hr,r'⟩:=ih o Q h H w hs;refine⟨a',w',h',?_,r'⟩;have e:w.heap[r]? = some o:=by rw[hs.heap];exact ho
  simp only[Sem.run,e]
  cases o<;>first|(simp[Li]at hc;done)|exact hr
 | setObj r o k ih=>
  intro Q h H w hs;obtain⟨⟨o',ho,hc⟩,H⟩:=H;have NX:Vl T { w with heap:=w.heap.setIfInBounds r o } (h.setIfInBounds r o):=⟨by simp only[hs.heap],hs.tape,hs.os,hs.output⟩
  obtain⟨a',w',h',hr,r'⟩:=ih Q _ H _ NX;refine⟨a',w',h',?_,r'⟩;have e:w.heap[r]? = some o':=by rw[hs.heap];exact ho
  simp only[Sem.run,e]
  cases o'<;>first|(simp[Li]at hc;done)|exact hr
 | choose q k ih=>
  intro Q h H w hs;simp only[hw]at H;split at H
  ·rename_i hq;obtain⟨a',w',h',hr,r'⟩:=ih _ Q h H w hs;exact⟨a',w',h',by rw[Sem.run,if_pos hq];exact hr,r'⟩
  ·rename_i hq;have NX:Vl T { w with drawn:=w.drawn+1 } h:=⟨hs.heap,hs.tape,hs.os,hs.output⟩
   obtain⟨a',w',h',hr,r'⟩:=ih _ Q h (H (w.tape w.drawn q)) _ NX;exact⟨a',w',h',by rw[Sem.run,if_neg hq];exact hr,r'⟩
 | sys c k ih=>intro Q h H;exact H.elim
 | program k ih=>
  intro Q h H w hs;obtain⟨a',w',h',hr,r'⟩:=ih _ Q h H w hs;exact⟨a',w',h',by rw[Sem.run];exact hr,r'⟩
 | mark m k ih=>
  intro Q h H w hs;obtain⟨a',w',h',hr,r'⟩:=ih Q h H w hs;exact⟨a',w',h',by rw[Sem.run];exact hr,r'⟩
 | halt x=>intro Q h H;exact H.elim
theorem Zf {α β:Type} {P:Program} (s:Sem α) (f:α→Sem β) (Q:β→Hp→Prop):∀h,hw P (s >>= f) Q h=hw P s (fun a h'=>hw P (f a) Q h') h:=by
 show ∀h,hw P (s.bind f) Q h=_
 induction s with
 | pure a=>intro h;rfl
 | load m a k ih=>intro h;simp only[Sem.bind,hw,ih]
 | store m a v k ih=>intro h;simp only[Sem.bind,hw,ih]
 | new o k ih=>intro h;simp only[Sem.bind,hw,ih]
 | shape r k ih=>intro h;simp only[Sem.bind,hw,ih]
 | freeze a n k ih=>intro h;simp only[Sem.bind,hw,ih]
 | frozen a k ih=>intro h;simp only[Sem.bind,hw,ih]
 | getObj r k ih=>intro h;simp only[Sem.bind,hw,ih]
 | setObj r o k ih=>intro h;simp only[Sem.bind,hw,ih]
 | choose q k ih=>intro h;simp only[Sem.bind,hw,ih]
 | sys c k ih=>intro h;simp only[Sem.bind,hw]
 | program k ih=>intro h;simp only[Sem.bind,hw,ih]
 | mark m k ih=>intro h;simp only[Sem.bind,hw,ih]
 | halt x=>intro h;rfl
theorem dg {α:Type} {P:Program} {Q Q':α→Hp→Prop} (hq:∀a h,Q a h→Q' a h):∀(s:Sem α) (h:Hp),hw P s Q h→hw P s Q' h:=by
 intro s
 induction s with
 | pure a=>intro h H;exact hq _ _ H
 | load m a k ih=>intro h H;obtain⟨v,hv,H⟩:=H;exact⟨v,hv,ih _ _ H⟩
 | store m a v k ih=>intro h H;obtain⟨h1,h2,h3,H⟩:=H;exact⟨h1,h2,h3,ih _ H⟩
 | new o k ih=>intro h H;exact ih _ _ H
 | shape r k ih=>intro h H;exact ih _ _ H
 | freeze a n k ih=>intro h H;exact ih _ H
 | frozen a k ih=>intro h H;exact ih _ _ H
 | getObj r k ih=>intro h H;obtain⟨o,h1,h2,H⟩:=H;exact⟨o,h1,h2,ih _ _ H⟩
 | setObj r o k ih=>intro h H;obtain⟨h1,H⟩:=H;exact⟨h1,ih _ H⟩
 | choose q k ih=>
  intro h H;simp only[hw]at H ⊢;split at H
  ·rename_i hf;rw[if_pos hf];exact ih _ _ H
  ·rename_i hf;rw[if_neg hf];exact fun t=>ih _ _ (H t)
 | sys c k ih=>intro h H;exact H
 | program k ih=>intro h H;exact ih _ _ H
 | mark m k ih=>intro h H;exact ih _ H
 | halt x=>intro h H;exact H
def Zc (P:Program) (T:World) (f:FuncId) (args:Array Value) (h:Hp) (Q:Value→Hp→Prop):Prop:=
 ∀w,Vl T w h→Calls P f args w fun e w'=>∃v h',e=.returned v∧Vl T w' h'∧Q v h'
theorem Zc.mono {P:Program} {T:World} {f:FuncId} {args:Array Value} {h:Hp} {Q Q':Value→Hp→Prop} (H:Zc P T f args h Q)
  (hq:∀v h',Q v h'→Q' v h'):Zc P T f args h Q':=
 fun w hs=>(H w hs).mono fun _ _ ⟨v,h',he,NX,q⟩=>⟨v,h',he,NX,hq _ _ q⟩
def Xx (P:Program) (T:World) (K:Value→Hp→Prop):Next→Hp→Prop
 | .value v,h=>K v h
 | .skip,h=>K undef h
 | .enter f args,h=>Zc P T f args h K
 | _,_=>False
def IQ (P:Program) (T:World) (o:Oper) (K:Value→Hp→Prop) (F:Env) (h:Hp):Prop:=
 hw P (execOp (ev F) o) (Xx P T K) h
theorem LH {P:Program} {T:World} {K K':Value→Hp→Prop} (hk:∀v h,K v h→K' v h):∀(x:Next) (h:Hp),Xx P T K x h→Xx P T K' x h:=by
 intro x h H
 cases x<;>simp only[Xx]at H ⊢<;>first|exact hk _ _ H|exact H.mono hk
theorem PG {P:Program} {T:World} {o:Oper} {K K':Value→Hp→Prop} {F:Env} {h:Hp} (hk:∀v h,K v h→K' v h) (H:IQ P T o K F h):IQ P T o K' F h:=
 dg (LH hk) _ _ H
theorem HF {P:Program} {T:World} {o:Oper} {K:Value→Hp→Prop} {F:Env} {h:Hp} (H:IQ P T o K F h) {a:Act} {w:World} (hF:env a=F) (hs:Vl T w h)
  {next:Act→World→Prop} {Q:Exit→Act→World→Prop} (hk:∀v w' h',Vl T w' h'→K v h'→next (a.put o.dst v) w'):o.wp P a w next Q:=by
 obtain⟨x,w',h',hr,NX,hx⟩:=lP _ _ _ H w hs;unfold Oper.wp;rw[EA,hF,hr]
 cases x<;>simp only[Xx]at hx
 case value v=>exact hk _ _ _ NX hx
 case skip=>exact hk _ _ _ NX hx
 case enter f args=>
  simp only[Oper.upon];exact (hx w' NX).mono fun e w'' ⟨v,O1,he,ZkW,q⟩=>by subst he;exact hk _ _ _ ZkW q
def Uj (ops:Array Oper) (F:Env) (j:Nat):Option Bool:=
 match (ops[j]?).bind (·.dst) with
 | some t=>match F t with
  | .bool b=>some b
  | _=>none
 | none=>none
def Z7 (ops:Array Oper) (o:Oper) (F:Env):Bool:=Region.wanted o (Uj ops F)
def lQ (n:Nat) (o:Oper):Bool:=match o.dst with|some d=>Nat.blt d n|none=>true
def NY (n:Nat) (ops:Array Oper):Bool:=ops.toList.all (lQ n)
theorem RF {n:Nat} {o:Oper} (h:lQ n o=true):∀d,o.dst=some d→d<n:=by
 intro d hd;unfold lQ at h;rw[hd]at h;exact Nat.blt_eq.mp h
theorem NZ {n:Nat} {ops:Array Oper} (J8:NY n ops=true) (a:Act) (hn:a.tmps.size=n):yielded ops a.tmps=Uj ops (env a):=by
 funext j
 unfold yielded Uj
 cases hj:ops[j]? with
 | none=>rfl
 | some o=>
  simp only[Option.bind_some]
  cases hd:o.dst with
  | none=>rfl
  | some d=>
   have ZD:d<a.tmps.size:=by
    rw[hn];have hm:o∈ops.toList:=by
     have:=Array.mem_of_getElem? hj
     simpa using this
    exact RF (List.all_eq_true.1 J8 o hm) d hd
   simp only[Option.bind_some];rw[Array.getElem?_eq_getElem ZD];have:env a d=a.tmps[d]:=by simp[env,ZD]
   rw[this]
   cases a.tmps[d]<;>rfl
def fM (P:Program) (T:World) (ops:Array Oper) (N:Env→Hp→Prop):List Oper→Env→Hp→Prop
 | [],F,h=>N F h
 | o :: l,F,h=>
  if Z7 ops o F then IQ P T o (fun v h'=>fM P T ops N l (Z4 F o.dst v) h') F h
  else fM P T ops N l (Z4 F o.dst undef) h
def ud (n:Nat) (T:World) (N:Env→Hp→Prop) (X:Nat→Env→Hp→Prop) (R:Env→Hp→Prop) (e:Exit) (a:Act) (w:World):Prop:=
 a.tmps.size=n∧a.defers=[]∧∃h,Vl T w h∧match e with
  | .normal=>N (env a) h
  | .exit j=>X j (env a) h
  | .ret=>R (env a) h
  | _=>False
def VS (P:Program) (n:Nat) (T:World) (c:Code) (N:Env→Hp→Prop) (X:Nat→Env→Hp→Prop) (R:Env→Hp→Prop) (F:Env) (h:Hp):Prop:=
 ∀a w,a.tmps.size=n→a.defers=[]→env a=F→Vl T w h→c.wp P (ud n T N X R) a w
section
variable {P:Program} {n:Nat} {T:World} {N:Env→Hp→Prop} {X:Nat→Env→Hp→Prop} {R:Env→Hp→Prop} {F:Env} {h:Hp}
theorem VS.mono {c:Code} {N':Env→Hp→Prop} {X':Nat→Env→Hp→Prop} {R':Env→Hp→Prop} (H:VS P n T c N X R F h)
  (hN:∀F h,N F h→N' F h) (hX:∀j F h,X j F h→X' j F h) (hR:∀F h,R F h→R' F h):VS P n T c N' X' R' F h:=by
 intro a w h1 h2 h3 h4;refine Code.wp_mono (fun e a w ⟨q1,q2,h,q3,q4⟩=>⟨q1,q2,h,q3,?_⟩) (H a w h1 h2 h3 h4)
 cases e<;>simp only at q4 ⊢<;>first|exact hN _ _ q4|exact hX _ _ _ q4|exact hR _ _ q4
theorem VS.seq {c d:Code} (H:VS P n T c (fun F h=>VS P n T d N X R F h) X R F h):VS P n T (.seq c d) N X R F h:=by
 intro a w h1 h2 h3 h4;refine wp_seq (Code.wp_mono (fun e a w ⟨q1,q2,h,q3,q4⟩=>?_) (H a w h1 h2 h3 h4))
 cases e with
 | normal=>exact q4 a w q1 q2 rfl q3
 | exit j=>exact⟨q1,q2,h,q3,q4⟩
 | ret=>exact⟨q1,q2,h,q3,q4⟩
 | _=>exact q4.elim
theorem VS.skip (H:N F h):VS P n T .skip N X R F h:=by
 intro a w h1 h2 h3 h4;exact wp_skip ⟨h1,h2,h,h4,by rw[h3];exact H⟩
theorem VS.ret (H:R F h):VS P n T .ret N X R F h:=by
 intro a w h1 h2 h3 h4;exact wp_ret ⟨h1,h2,h,h4,by rw[h3];exact H⟩
theorem VS.exit {j:Nat} (H:X j F h):VS P n T (.exit j) N X R F h:=by
 intro a w h1 h2 h3 h4;exact wp_exit ⟨h1,h2,h,h4,by rw[h3];exact H⟩
theorem VS.block {j:Nat} {c:Code} (H:VS P n T c N (fun i F h=>if i=j then N F h else X i F h) R F h):VS P n T (.block j c) N X R F h:=by
 intro a w h1 h2 h3 h4;refine wp_block (Code.wp_mono (fun e a w ⟨q1,q2,h,q3,q4⟩=>?_) (H a w h1 h2 h3 h4))
 cases e with
 | normal=>exact⟨q1,q2,h,q3,q4⟩
 | exit i=>
  simp only[Exit.inBlock];simp only at q4;split
  ·rename_i kK;rw[if_pos kK]at q4;exact⟨q1,q2,h,q3,q4⟩
  ·rename_i kK;rw[if_neg kK]at q4;exact⟨q1,q2,h,q3,q4⟩
 | ret=>exact⟨q1,q2,h,q3,q4⟩
 | _=>exact q4.elim
theorem VS.cond {c:Operand} {x y:Code} {b:Bool} (hc:ev F c=.bool b) (ht:b=true→VS P n T x N X R F h) (hf:b=false→VS P n T y N X R F h) :
  VS P n T (.cond c x y) N X R F h:=by
 intro a w h1 h2 h3 h4;refine wp_cond_split (t:=b) (by rw[EA,h3];exact hc) (fun hb=>ht hb a w h1 h2 h3 h4) (fun hb=>hf hb a w h1 h2 h3 h4)
theorem VS.loop {c:Code} (I:Env→Hp→Prop) (μ:Env→Hp→Nat) (h0:I F h)
  (round:∀F h,I F h→VS P n T c (fun F' h'=>I F' h'∧μ F' h'<μ F h) X R F h):VS P n T (.loop c) N X R F h:=by
 intro a w h1 h2 h3 h4;refine wp_loop (fun a w=>a.tmps.size=n∧a.defers=[]∧Vl T w w.heap∧I (env a) w.heap) (fun a w=>μ (env a) w.heap)
  ⟨h1,h2,by rw[h4.heap];exact h4,by rw[h3,h4.heap];exact h0⟩ ?_
 intro a w ⟨q1,q2,q3,q4⟩;refine Code.wp_mono (fun e a' w' ⟨p1,p2,h',p3,p4⟩=>?_) (round (env a) w.heap q4 a w q1 q2 rfl q3)
 cases e with
 | normal=>
  have e:=p3.heap;subst e;exact⟨⟨p1,p2,p3,p4.1⟩,p4.2⟩
 | exit j=>exact⟨p1,p2,h',p3,p4⟩
 | ret=>exact⟨p1,p2,h',p3,p4⟩
 | _=>exact p4.elim
theorem Wb {ops:Array Oper} (J8:NY n ops=true):∀(l:List Oper) (F:Env) (h:Hp),(∀o∈l,o∈ops.toList)→fM P T ops N l F h →
  ∀a w,a.tmps.size=n→a.defers=[]→env a=F→Vl T w h→wpList P ops (ud n T N X R) l a w
 | [],F,h,_,H,a,w,h1,h2,h3,h4=>⟨h1,h2,h,h4,by rw[h3];exact H⟩
 | o :: l,F,h,hm,H,a,w,h1,h2,h3,h4=>by
  have hd:∀d,o.dst=some d→d<a.tmps.size:=by
   rw[h1];exact RF (List.all_eq_true.1 J8 o (hm o (by simp)))
  have Lj:∀o∈l,o∈ops.toList:=fun x hx=>hm x (by simp[hx]);have LJ:Region.wanted o (yielded ops a.tmps)=Z7 ops o F:=by rw[NZ J8 a h1,h3];rfl
  unfold wpList;rw[LJ];unfold fM at H;split at H
  ·rename_i hw;rw[if_pos hw];refine .inl (HF H h3 h4 fun v w' h' NX hk=>?_);exact Wb J8 l _ h' Lj hk _ _ (by rw[PD,h1]) (by cases o.dst<;>exact h2) (by rw[Lh a _ _ hd,h3]) NX
  ·rename_i hw;rw[if_neg hw];exact Wb J8 l _ h Lj H _ _ (by rw[PD,h1]) (by cases o.dst<;>exact h2) (by rw[Lh a _ _ hd,h3]) h4
theorem VS.region {id:Nat} {ops:Array Oper} (J8:NY n ops=true) (H:fM P T ops N ops.toList F h):VS P n T (.region id ops false) N X R F h:=by
 intro a w h1 h2 h3 h4;exact wp_region_list (Wb J8 ops.toList F h (fun _ h=>h) H a w h1 h2 h3 h4)
def Qe (P:Program) (T:World) (ops:Array Oper) (i:Nat) (K:Env→Hp→Prop) (F:Env) (h:Hp):Prop:=
 match ops[i]? with
 | none=>K F h
 | some o=>if Z7 ops o F then IQ P T o (fun v h'=>K (Z4 F o.dst v) h') F h else K (Z4 F o.dst undef) h
theorem XT {ops:Array Oper} {i:Nat} {K K':Env→Hp→Prop} (hk:∀F h,K F h→K' F h) {F:Env} {h:Hp} (H:Qe P T ops i K F h):Qe P T ops i K' F h:=by
 unfold Qe at *;split at H
 ·exact hk _ _ H
 ·split at H
  ·rename_i hw;rw[if_pos hw];exact PG (fun _ _ q=>hk _ _ q) H
  ·rename_i hw;rw[if_neg hw];exact hk _ _ H
def BJ (P:Program) (T:World) (ops:Array Oper) (S:Hp→Prop) (N:Env→Hp→Prop):Nat→Array Bool→Env→Hp→Prop
 | 0,listed,F,h=>Region.ready .any ops listed=[]∧N F h
 | k+1,listed,F,h=>(Region.ready .any ops listed=[]→N F h) ∧
   ∀i∈Region.ready .any ops listed,Qe P T ops i (fun F' h'=>S h'∧BJ P T ops S N k (listed.setIfInBounds i true) F' h') F h
theorem Jt {ops:Array Oper} {S:Hp→Prop} (J8:NY n ops=true):∀(k:Nat) (listed:Array Bool) (F:Env) (h:Hp),BJ P T ops S N k listed F h →
  ∀a w,a.tmps.size=n→a.defers=[]→env a=F→Vl T w h→wpAny P .any ops (ud n T N X R) k listed a w
 | 0,listed,F,h,H,a,w,h1,h2,h3,h4=>⟨H.1,h1,h2,h,h4,by rw[h3];exact H.2⟩
 | k+1,listed,F,h,H,a,w,h1,h2,h3,h4=>by
  refine⟨fun h0=>⟨h1,h2,h,h4,by rw[h3];exact H.1 h0⟩,fun i hi=>?_⟩;have Hi:=H.2 i hi;unfold Qe at Hi;unfold wpOp
  cases ho:ops[i]? with
  | none=>rw[ho]at Hi;exact Jt J8 k _ F h Hi.2 a w h1 h2 h3 h4
  | some o=>
   rw[ho]at Hi;simp only at Hi ⊢;have hd:∀d,o.dst=some d→d<a.tmps.size:=by
    rw[h1];exact RF (List.all_eq_true.1 J8 o (by have:=Array.mem_of_getElem? ho;simpa using this))
   have LJ:Region.wanted o (yielded ops a.tmps)=Z7 ops o F:=by rw[NZ J8 a h1,h3];rfl
   rw[LJ];split at Hi
   ·rename_i hw;rw[if_pos hw];refine .inl (HF Hi h3 h4 fun v w' h' NX hk=>?_);exact Jt J8 k _ _ h' hk.2 _ _ (by rw[PD,h1]) (by cases o.dst<;>exact h2) (by rw[Lh a _ _ hd,h3]) NX
   ·rename_i hw;rw[if_neg hw];exact Jt J8 k _ _ h Hi.2 _ _ (by rw[PD,h1]) (by cases o.dst<;>exact h2) (by rw[Lh a _ _ hd,h3]) h4
def QM (P:Program) (T:World) (ops:Array Oper) (S:Hp→Prop) (o:Oper) (v:Value) (F:Env):Prop:=
 (Z7 ops o F=true∧∀h,S h→IQ P T o (fun v' h'=>v'=v∧h'=h) F h)∨(Z7 ops o F=false∧v=undef)
theorem ue {F:Env} {dst:Option Nat} {v:Value} {x:Operand} (hx:∀d,dst=some d→x ≠ .tmp d):ev (Z4 F dst v) x=ev F x:=by
 cases dst with
 | none=>rfl
 | some d=>
  cases x with
  | tmp t=>
   have Yv:t≠d:=fun e=>hx d rfl (by rw[e]);show (if t=d then v else F t)=F t;rw[if_neg Yv]
  | _=>rfl
theorem N0 {ops:Array Oper} (o:Oper) (hs:∀cs b,o.op ≠ .select cs b) (F:Env) (dst:Option Nat) (v:Value) (h:∀d,dst=some d→d ∉ o.looksAt ops) :
  execOp (ev (Z4 F dst v)) o=execOp (ev F) o:=
 execOp_congr o hs fun x hx=>ue fun d hd hxd=>h d hd (by
  subst hxd;exact List.mem_append_left _ (List.mem_filterMap.2 ⟨.tmp d,by simpa using hx,rfl⟩))
theorem PH {ops:Array Oper} (o:Oper) (F:Env) (dst:Option Nat) (v:Value) (h:∀d,dst=some d→d ∉ o.looksAt ops) :
  Z7 ops o (Z4 F dst v)=Z7 ops o F:=by
 cases dst with
 | none=>rfl
 | some d=>
  unfold Z7 Region.wanted
  cases hg:o.guard with
  | none=>rfl
  | some gw=>
   obtain⟨g,want⟩:=gw;simp only;have hd:=h d rfl;unfold Oper.looksAt at hd;rw[hg]at hd;simp only[List.mem_append,not_or]at hd;have:Uj ops (Z4 F (some d) v) g=Uj ops F g:=by
    unfold Uj
    cases hb:(ops[g]?).bind (·.dst) with
    | none=>rfl
    | some t=>
     have Yv:t≠d:=fun e=>hd.2 (by rw[hb,e];simp);show (match (if t=d then v else F t) with|.bool b=>some b|_=>none)=_;rw[if_neg Yv]
   rw[this]
theorem HG (F:Env) {d d':Option Nat} (v v':Value) (h:∀x,d=some x→d'≠some x):Z4 (Z4 F d v) d' v'=Z4 (Z4 F d' v') d v:=by
 cases d with
 | none=>rfl
 | some x=>
  cases d' with
  | none=>rfl
  | some y=>
   have Yv:y≠x:=fun e=>h x rfl (by rw[e])
   funext t
   simp only[Z4,upd];by_cases h1:t=y
   ·subst h1;rw[if_pos rfl,if_neg Yv,if_pos rfl]
   ·rw[if_neg h1];by_cases h2:t=x
    ·rw[if_pos h2,if_pos h2]
    ·rw[if_neg h2,if_neg h2,if_neg h1]
theorem QM.put {ops:Array Oper} {S:Hp→Prop} {o:Oper} (hs:∀cs b,o.op ≠ .select cs b) {v:Value} {F:Env} (hy:QM P T ops S o v F) {dst:Option Nat} {u:Value}
  (h:∀d,dst=some d→d ∉ o.looksAt ops):QM P T ops S o v (Z4 F dst u):=by
 unfold QM IQ at *;rw[PH o F dst u h,N0 o hs F dst u h];exact hy
theorem QM.opI {ops:Array Oper} {S:Hp→Prop} {i:Nat} {o:Oper} {v:Value} {F:Env} {h:Hp} (hi:ops[i]? = some o) (hy:QM P T ops S o v F) (hS:S h)
  {K:Env→Hp→Prop} (H:K (Z4 F o.dst v) h):Qe P T ops i K F h:=by
 unfold Qe;rw[hi];rcases hy with⟨hw,hv⟩|⟨hw,rfl⟩
 ·simp only[hw,if_true];exact PG (fun v' h' ⟨e1,e2⟩=>by subst e1;subst e2;exact H) (hv h hS)
 ·simp only[hw,Bool.false_eq_true,if_false];exact H
theorem LM {ops:Array Oper} {S:Hp→Prop} {j:Nat} {oi oj:Oper} {v:Value} (hj:ops[j]? = some oj) (hap:oi.apart ops oj=true)
  (hsi:∀cs b,oi.op ≠ .select cs b) (hsj:∀cs b,oj.op ≠ .select cs b) {K:Env→Hp→Prop} {F:Env} {h:Hp} (hy:QM P T ops S oi v F)
  (H:Qe P T ops j K (Z4 F oi.dst v) h):Qe P T ops j (fun F' h'=>QM P T ops S oi v F'∧K (Z4 F' oi.dst v) h') F h:=by
 obtain⟨h1,h2,h3⟩:=Oper.apart_spec hap;unfold Qe at *;rw[hj]at *;simp only at *;rw[PH oj F oi.dst v h1]at H;split at H
 ·rename_i hw;rw[if_pos hw];unfold IQ at *;rw[N0 oj hsj F oi.dst v h1]at H;refine dg (LH fun u h' q=>?_) _ _ H;exact⟨hy.put hsi h3,by rw[←HG F v u h2];exact q⟩
 ·rename_i hw;rw[if_neg hw];exact⟨hy.put hsi h3,by rw[←HG F v undef h2];exact H⟩
theorem LN {ops:Array Oper} {S:Hp→Prop} {i:Nat} {oi:Oper} {v:Value} (hi:ops[i]? = some oi) (EB:∀(j:Nat) (o:Oper) cs b,ops[j]? = some o→o.op ≠ .select cs b) :
  ∀(k:Nat) (listed:Array Bool) (F:Env) (h:Hp),
   (∀j oj,ops[j]? = some oj→j≠i→listed.getD j true=false→(∀e∈oj.after,Region.binds .any e=true→e.on≠i)→oi.apart ops oj=true) →
   i∈Region.ready .any ops listed→QM P T ops S oi v F→S h →
   BJ P T ops S N k (listed.setIfInBounds i true) (Z4 F oi.dst v) h→BJ P T ops S N (k+1) listed F h:=by
 intro k
 induction k with
 | zero=>
  intro listed F h _ hr hy hS H;refine⟨fun h=>(by rw[h]at hr;cases hr),fun j hj=>?_⟩;by_cases WO:j=i
  ·subst WO;exact hy.opI hi hS ⟨hS,H⟩
  ·have:=ready_mono hj WO;rw[H.1]at this
   cases this
 | succ k ih=>
  intro listed F h N9 hr hy hS H;refine⟨fun h=>(by rw[h]at hr;cases hr),fun j hj=>?_⟩;by_cases WO:j=i
  ·subst WO;exact hy.opI hi hS ⟨hS,H⟩
  ·have h1:=H.2 j (ready_mono hj WO);obtain⟨EC,oj,fN,Xg⟩:=mem_ready.1 hj;have GV:∀e∈oj.after,Region.binds .any e=true→e.on≠i:=fun e he hb heq=>by
    have h1:=Xg e he hb;have h0:=(mem_ready.1 hr).1;rw[heq]at h1;rcases Nat.lt_or_ge i listed.size with h'|h'
    ·simp[h']at h0 h1;rw[h0]at h1;cases h1
    ·simp[Array.getElem?_eq_none h']at h1
   have h2:=LM fN (N9 j oj fN WO EC GV) (fun cs b=>EB i oi cs b hi) (fun cs b=>EB j oj cs b fN) hy h1;have LO:∀k ok,ops[k]? = some ok→k≠i→(listed.setIfInBounds j true).getD k true=false →
     (∀e∈ok.after,Region.binds .any e=true→e.on≠i)→oi.apart ops ok=true:=fun k ok hk hki yX yZ=>by
    refine N9 k ok hk hki ?_ yZ;by_cases ED:j=k
    ·subst ED;exact EC
    ·rw[getD_set_ne true ED]at yX;exact yX
   refine XT (fun F' h' h3=>⟨h3.2.1,ih (listed.setIfInBounds j true) F' h' LO (ready_mono hr (Ne.symm WO)) h3.1 h3.2.1 ?_⟩) h2;rw[Array.setIfInBounds_comm _ _ WO];exact h3.2.2
def PI (P:Program) (T:World) (ops:Array Oper) (S:Hp→Prop) (N:Env→Hp→Prop):List (Nat × Bool × Oper)→Env→Hp→Prop
 | [],F,h=>N F h
 | (_,q,o) :: l,F,h=>
  if Z7 ops o F then
   if q then ∃v,(∀h',S h'→IQ P T o (fun v' O1=>v'=v∧O1=h') F h')∧PI P T ops S N l (Z4 F o.dst v) h
   else IQ P T o (fun v h'=>S h'∧PI P T ops S N l (Z4 F o.dst v) h') F h
  else PI P T ops S N l (Z4 F o.dst undef) h
def UG (ops:Array Oper) (l:List (Nat × Bool)):List (Nat × Bool × Oper):=l.map fun (i,q)=>(i,q,ops.getD i default)
def LP (ops:Array Oper):List (Nat × Bool)→Array Bool→Bool
 | [],listed=>(Region.ready .any ops listed).isEmpty
 | (i,q) :: l,listed=>
  (if q then (Region.ready .any ops listed).contains i&&Region.free .any ops listed i else (Region.ready .any ops listed == [i]))&&LP ops l (listed.setIfInBounds i true)
theorem Qf {ops:Array Oper} {S:Hp→Prop} (hs:Region.noSelect ops=true):∀(l:List (Nat × Bool)) (listed:Array Bool) (F:Env) (h:Hp),LP ops l listed=true→S h →
  PI P T ops S N (UG ops l) F h→BJ P T ops S N l.length listed F h
 | [],listed,F,h,hB,_,H=>⟨by simpa [LP] using hB,H⟩
 | (i,q) :: l,listed,F,h,hB,hS,H=>by
  simp only[LP,Bool.and_eq_true]at hB;obtain⟨Uk,T8⟩:=hB;have RH:i∈Region.ready .any ops listed:=by
   cases q
   ·simp only[Bool.false_eq_true,if_false,beq_iff_eq]at Uk;rw[Uk];simp
   ·simp only[if_true,Bool.and_eq_true]at Uk;simpa using Uk.1
  obtain⟨_,o,ho,_⟩:=mem_ready.1 RH;have hp:UG ops ((i,q) :: l)=(i,q,o) :: UG ops l:=by simp[UG,ho]
  rw[hp]at H;simp only[PI]at H
  cases q with
  | true=>
   simp only[if_true,Bool.and_eq_true]at Uk H;split at H
   ·rename_i hw;obtain⟨v,hv,H⟩:=H;exact LN ho (Region.noSelect_spec hs) l.length listed F h (Region.free_spec ho Uk.2) RH (.inl ⟨hw,hv⟩) hS (Qf hs l _ _ _ T8 hS H)
   ·rename_i hw;exact LN ho (Region.noSelect_spec hs) l.length listed F h (Region.free_spec ho Uk.2) RH (.inr ⟨by simpa using hw,rfl⟩) hS (Qf hs l _ _ _ T8 hS H)
  | false=>
   simp only[Bool.false_eq_true,if_false,beq_iff_eq]at Uk H;refine⟨fun h0=>(by rw[h0]at RH;cases RH),fun j hj=>?_⟩;rw[Uk]at hj;have hj:j=i:=by simpa using hj
   subst hj;unfold Qe;rw[ho];simp only;split at H
   ·rename_i hw;rw[if_pos hw];exact PG (fun v h' q=>⟨q.1,Qf hs l _ _ _ T8 q.1 q.2⟩) H
   ·rename_i hw;rw[if_neg hw];exact⟨hS,Qf hs l _ _ _ T8 hS H⟩
def VI (n:Nat) (ops:Array Oper) (l:List (Nat × Bool)):Bool:=
 NY n ops&&(Region.noSelect ops&&(LP ops l (Array.replicate ops.size false)&&Nat.beq l.length ops.size))
theorem VS.held {id:Nat} {ops:Array Oper} (S:Hp→Prop) (l:List (Nat × Bool)) (hm:P.follows .mixedOrders=true) (J8:VI n ops l=true) (hS:S h)
  (H:PI P T ops S N (UG ops l) F h):VS P n T (.region id ops true) N X R F h:=by
 intro a w h1 h2 h3 h4;simp only[VI,Bool.and_eq_true]at J8;obtain⟨k1,k2,k3,k4⟩:=J8;refine wp_region_any hm ?_;have hl:l.length=ops.size:=Nat.eq_of_beq_eq_true k4;rw[←hl];refine Jt k1 _ _ F h (Qf k2 l _ F h (by rw[hl];exact k3) hS H) a _ h1 h2 h3 ⟨h4.heap,h4.tape,h4.os,h4.output⟩
theorem VS.quiet {id:Nat} {ops:Array Oper} (hm:P.follows .mixedOrders=true) (J8:VI n ops ((List.range ops.size).map fun i=>(i,true))=true)
  (H:PI P T ops (fun h'=>h'=h) N (UG ops ((List.range ops.size).map fun i=>(i,true))) F h):VS P n T (.region id ops true) N X R F h:=
 VS.held (fun h'=>h'=h) _ hm J8 rfl H
def hr {α:Type} (P:Program):Sem α→Hp→Option α
 | .pure a,_=>some a
 | .load _ a k,h=>(hc h a).bind fun v=>hr P (k v) h
 | .shape r k,h=>hr P (k (Wa h r)) h
 | .frozen a k,h=>hr P (k (lL h a)) h
 | .program k,h=>hr P (k P) h
 | _,_=>none
theorem lT {α:Type} {P:Program} {T:World}:∀(s:Sem α) (h:Hp) (a:α),hr P s h=some a→∀w,Vl T w h→s.run P w=.ok a w:=by
 intro s
 induction s with
 | pure a=>intro h b H w hs;simp only[hr,Option.some.injEq]at H;rw[H];rfl
 | load m a k ih=>
  intro h b H w hs;simp only[hr]at H
  cases hv:hc h a with
  | none=>rw[hv]at H;cases H
  | some v=>
   rw[hv]at H;have:w.cell? a=some v:=by rw[World.cell?,hs.heap];exact hv
   rw[Sem.run,this];exact ih v h b H w hs
 | shape r k ih=>
  intro h b H w hs;have:w.shape? r=Wa h r:=by rw[World.shape?,hs.heap];rfl
  rw[Sem.run,this];exact ih _ h b H w hs
 | frozen a k ih=>
  intro h b H w hs;have:w.frozen? a=lL h a:=by rw[World.frozen?,hs.heap];rfl
  rw[Sem.run,this];exact ih _ h b H w hs
 | program k ih=>intro h b H w hs;rw[Sem.run];exact ih _ h b H w hs
 | _=>intro h b H;cases H
theorem JA {α β:Type} {P:Program} (s:Sem α) (f:α→Sem β):∀h,hr P (s >>= f) h=(hr P s h).bind fun a=>hr P (f a) h:=by
 show ∀h,hr P (s.bind f) h=_
 induction s with
 | load m a k ih=>intro h;simp only[Sem.bind,hr,ih];cases hc h a<;>rfl
 | shape r k ih=>intro h;simp only[Sem.bind,hr,ih]
 | frozen a k ih=>intro h;simp only[Sem.bind,hr,ih]
 | program k ih=>intro h;simp only[Sem.bind,hr,ih]
 | _=>intro h;rfl
def PJ (P:Program) (t:TypeId) (v:Value) (h:Hp):Option Value:=
 match v with
 | .pointer (some a)=>hr P (loadVar t a) h
 | _=>none
def JC (P:Program) (F:Env) (h:Hp):List ResultVar→Option (List Value)
 | []=>some []
 | .tmp t :: l=>(JC P F h l).map (F t :: ·)
 | .cell a t :: l=>(PJ P t (F a) h).bind fun v=>(JC P F h l).map (v :: ·)
def RJ:List Value→Value
 | [v]=>v
 | l=>.tuple l.toArray
def LQ (P:Program) (l:List ResultVar) (F:Env) (Q:Value→Hp→Prop) (h:Hp):Prop:=
 match JC P F h l with
 | some vs=>Q (RJ vs) h
 | none=>False
def uf (F:Env):ResultVar→Sem Value
 | .tmp t=>pure (F t)
 | .cell a t=>do loadVar t (←asAddr (F a))
theorem fO {F:Env} {h:Hp}:∀(l:List ResultVar) (vs:List Value),JC P F h l=some vs→hr P (l.mapM (uf F)) h=some vs:=by
 intro l
 induction l with
 | nil=>intro vs H;simp only[JC,Option.some.injEq]at H;subst H;rfl
 | cons x l ih=>
  intro vs H;rw[List.mapM_cons,JA]
  cases x with
  | tmp t=>
   simp only[JC]at H
   cases hl:JC P F h l with
   | none=>rw[hl]at H;cases H
   | some us=>
    rw[hl]at H;simp only[Option.map_some,Option.some.injEq]at H;subst H;show (some (F t)).bind _=_;rw[Option.bind_some,JA,ih us hl];rfl
  | cell a t=>
   simp only[JC]at H
   cases hv:PJ P t (F a) h with
   | none=>rw[hv]at H;cases H
   | some v=>
    rw[hv]at H
    cases hl:JC P F h l with
    | none=>rw[hl]at H;cases H
    | some us=>
     rw[hl]at H;simp only[Option.bind_some,Option.map_some,Option.some.injEq]at H;subst H;have e:hr P (uf F (.cell a t)) h=some v:=by
      show hr P (asAddr (F a) >>= fun b=>loadVar t b) h=some v;unfold PJ at hv;split at hv
      ·rename_i b hb;rw[hb,JA];exact hv
      ·cases hv
     rw[e,Option.bind_some,JA,ih us hl];rfl
theorem EE {fn:Func} {l:List ResultVar} (hl:fn.results=l.toArray) {a:Act} {h:Hp} {vs:List Value} (H:JC P (env a) h l=some vs) {w:World} (hs:Vl T w h) :
  (results fn a.tmps).run P w=.ok (RJ vs) w:=by
 have e:results fn a.tmps=(do let us ←fn.results.mapM (uf (env a));pure (if h:us.size=1 then us[0] else .tuple us)):=by
  have e1:(fun x:ResultVar=>match x with|.tmp t=>(pure (a.tmps.getD t undef):Sem Value)|.cell x t=>do loadVar t (←asAddr (a.tmps.getD x undef)))=uf (env a):=by
   funext x
   cases x<;>rfl
  rw[←e1];rfl
 rw[e,hl];refine lT (T:=T) _ h _ ?_ w hs;rw[JA,List.mapM_toArray,map_eq_pure_bind,JA,fO l vs H];show some _=_
 congr 1
 match vs with
 | []=>rfl
 | [v]=>rfl
 | v :: u :: l=>simp[RJ]
end
theorem fP (args:Array Value) (k:Nat):env { tmps:=args++Array.replicate k undef,defers:=[] } = IP args.toList 0:=by
 have key:∀(l:List Value) (j t:Nat),IP l j t=if j≤t then (l[t-j]?).getD undef else undef:=by
  intro l
  induction l with
  | nil=>intro j t;simp[IP]
  | cons v l ih=>
   intro j t;simp only[IP,upd];by_cases h:t=j
   ·subst h;simp
   ·rw[if_neg h,ih];by_cases h':j≤t
    ·have e:t-j=(t-(j+1))+1:=by omega
     rw[if_pos (by omega),if_pos h',e];simp
    ·rw[if_neg (by omega),if_neg h']
 funext t
 rw[key];simp only[env,Nat.zero_le,if_true,Nat.sub_zero,Array.getD_eq_getD_getElem?,Array.getElem?_append,Array.getElem?_toList];by_cases h:t<args.size
 ·rw[if_pos h]
 ·rw[if_neg h,Array.getElem?_eq_none (by omega:args.size≤t)];by_cases h2:t-args.size<k
  ·simp[h2]
  ·simp[h2]
theorem Zc.Lk {P:Program} {T:World} {f:FuncId} {fn:Func} {c:Code} {l:List ResultVar} {args:Array Value} {h:Hp} {Q:Value→Hp→Prop} (hf:P.funcs[f]? = some fn) (hb:fn.body=some c)
  (hl:fn.results=l.toArray) (hn:Nat.ble args.size fn.ntmps=true)
  (H:VS P fn.ntmps T c (fun F h'=>LQ P l F Q h') (fun _ _ _=>False) (fun F h'=>LQ P l F Q h') (IP args.toList 0) h) :
  Zc P T f args h Q:=by
 intro w hs;refine calls_of_wp hf hb (Code.wp_mono (fun e a w hp=>?_) (H _ w ?_ rfl (fP _ _) hs))
 ·obtain⟨q1,q2,h',q3,q4⟩:=hp;have key:LQ P l (env a) Q h'→∃v,(results fn a.tmps).run P w=.ok v w∧∃v' O1,Ending.returned v=.returned v'∧Vl T w O1∧Q v' O1:=by
   intro hr;unfold LQ at hr;split at hr
   ·rename_i vs ug;exact⟨_,EE hl ug q3,_,h',rfl,q3,hr⟩
   ·exact hr.elim
  cases e with
  | normal=>exact⟨q2,key q4⟩
  | ret=>exact⟨q2,key q4⟩
  | _=>exact q4.elim
 ·have:=Nat.le_of_ble_eq_true hn;simp only[Array.size_append,Array.size_replicate];omega
set_option linter.unusedSimpArgs false
set_option linter.unusedVariables false
def tz (P:Program) (t:TypeId):Option (List Value):=((P.info? t).bind (·.zero)).map fun v=>v.cells.toList
def tn (P:Program) (t:TypeId):Option Nat:=(P.info? t).map (·.size)
def tb (P:Program) (t:TypeId):Option Nat:=(P.info? t).map (·.bytes)
def ta (P:Program) (t:TypeId):Option Bool:=(P.underlying t).map fun|.struct _=>true|.array _ _=>true|_=>false
def tf (P:Program) (t:TypeId) (i:Nat):Option Nat:=
 match P.underlying t with
 | some (.struct fs)=>(fs[i]?).bind fun f=>match tn P f.type with
  | some (_+1)=>some f.offset
  | _=>none
 | _=>none
def YF (P:Program) (t:TypeId):Option (Nat × TypeId):=match P.underlying t with|some (.array n e)=>some (n,e)|_=>none
def JD (P:Program) (t:TypeId):Option TypeId:=match P.underlying t with|some (.slice e)=>some e|_=>none
def Rb (P:Program) (t:TypeId):Option (List (Nat × Nat)):=match P.underlying t with|some (.struct fs)=>fs.toList.mapM (fun f=>(tn P f.type).map fun n=>(f.offset,n))|_=>none
def tfl (P:Program) (t:TypeId) (i:Nat):Option (Nat × TypeId):=match P.underlying t with|some (.struct fs)=>(fs[i]?).map fun f=>(f.offset,f.type)|_=>none
def Ul (P:Program) (t:TypeId):Bool:=match P.underlying t with|some .string=>true|_=>false
def IS (P:Program) (t:TypeId):Option IntKind:=match P.underlying t with|some (.int k)=>some k|_=>none
def goes (P:Program) (f:FuncId):Bool:=match P.funcs[f]? with|some fn=>!(fn.name == "runtime.NumGoroutine")&&fn.body.isSome|none=>false
def cl:Value→List Value
 | .agg cs=>cs.toList
 | v=>[v]
theorem PK (v:Value):(cl v).toArray=v.cells:=by cases v<;>rfl
section
variable (P:Program) (T:World)
def HH (c a b:Value) (K:Value→Hp→Prop) (h:Hp):Prop:=
 match c with|.bool t=>K (if t then a else b) h|_=>False
def lU (z:Option (List Value)) (t:TypeId) (K:Value→Hp→Prop) (h:Hp):Prop:=
 match z with|some l=>K (.pointer (some ⟨h.size,0,none⟩)) (h.push (.cells l.toArray t))|none=>False
def rd (h:Hp) (a:Addr) (n:Nat):Option (List Value):=
 match h[a.block]? with
 | some (.cells c _ _)=>if a.spot=none∧a.off+n≤c.size then some ((c.toList.drop a.off).take n) else none
 | _=>none
def MU (x:Option Value) (K:Value→Hp→Prop) (h:Hp):Prop:=match x with|some v=>K v h|none=>False
def LS (x:Option (List Value)) (K:Value→Hp→Prop) (h:Hp):Prop:=match x with|some l=>K (.agg l.toArray) h|none=>False
def PM (s:Option Bool) (n:Option Nat) (p:Value) (K:Value→Hp→Prop) (h:Hp):Prop:=
 match p with
 | .pointer (some a)=>match s,n with
  | some false,_=>MU (hc h a) K h
  | some true,some n=>LS (rd h a n) K h
  | _,_=>False
 | _=>False
def Yw:List Value→Nat→List Value→List Value
 | l,_,[]=>l
 | [],_,_ :: _=>[]
 | _ :: l,0,v :: vs=>v :: Yw l 0 vs
 | x :: l,n+1,v :: vs=>x :: Yw l n (v :: vs)
def wr (h:Hp) (a:Addr) (vs:List Value):Option Hp:=
 match h[a.block]? with
 | some (.cells c e (lo,hi))=>if a.spot=none∧a.off+vs.length≤c.size∧hi≤lo∧vs.all Z6=true then some (h.setIfInBounds a.block (.cells (Yw c.toList a.off vs).toArray e (lo,hi))) else none
 | _=>none
def JK (h:Hp) (a:Addr) (v:Value):Option Hp:=
 match h[a.block]? with
 | some (.cells c e (lo,hi))=>if a.spot=none∧a.off<c.size∧hi≤lo∧Z6 v=true then some (h.setIfInBounds a.block (.cells (c.setIfInBounds a.off v) e (lo,hi))) else none
 | _=>none
def dh (x:Option Hp) (K:Value→Hp→Prop):Prop:=match x with|some h'=>K undef h'|none=>False
def UH (n:Option Nat) (p v:Value) (K:Value→Hp→Prop) (h:Hp):Prop:=
 match p,n with
 | .pointer (some a),some n=>
  if n=(cl v).length then
   match v with
   | .agg cs=>dh (wr h a cs.toList) K
   | v=>dh (JK h a v) K
  else False
 | _,_=>False
def RK (f:Option Nat) (p:Value) (K:Value→Hp→Prop) (h:Hp):Prop:=
 match f,p with
 | some o,.pointer (some a)=>K (.pointer (some (a.add o))) h
 | _,_=>False
def Y6 (op:BinOp) (t:TypeId) (x y:Operand) (a b:Value) (K:Value→Hp→Prop) (h:Hp):Prop:=
 hw P (do eqGuard op t x y a b;binOp op t a b) K h
def vUn (op:UnOp) (a:Value) (K:Value→Hp→Prop) (h:Hp):Prop:=hw P (Op.unary op a) K h
def VJ (src dst:TypeId) (a:Value) (K:Value→Hp→Prop) (h:Hp):Prop:=hw P (convert src dst a) K h
def zc (arr:Option (Nat × TypeId)) (sl:Option TypeId) (n:TypeId→Option Nat) (p i:Value) (K:Value→Hp→Prop) (h:Hp):Prop:=
 match i with
 | .int _ i=>(match arr,sl,p with
  | some (len,e),none,.pointer (some a)=>(match n e with
   | some n=>if 0≤i∧i<(len:Int) then K (.pointer (some (a.add (i.toNat*n)))) h else False
   | none=>False)
  | none,some e,.slice (some a) len _=>(match n e with
   | some n=>if 0≤i∧i<(len:Int) then K (.pointer (some (a.add (i.toNat*n)))) h else False
   | none=>False)
  | _,_,_=>False)
 | _=>False
def Um (v:Value) (i:Nat) (K:Value→Hp→Prop) (h:Hp):Prop:=
 match v with|.tuple vs=>MU (vs[i]?) K h|_=>False
def BK (v:Value) (K:Value→Hp→Prop) (h:Hp):Prop:=
 match v with|.pointer (some a)=>K (.pointer (some a)) h|.func (.func f) x y=>K (.func (.func f) x y) h|_=>False
def LU (f:Value) (args:List Value) (K:Value→Hp→Prop) (h:Hp):Prop:=
 match f with
 | .func (.func f) first captured=>if goes P f=true then Zc P T f (first.toList++args++captured.toList).toArray h K
  else hw P (callFunc f (first.toList++args++captured.toList).toArray) (Xx P T K) h
 | _=>False
def T6 (b:Builtin) (ts:Array TypeId) (ty:TypeId) (cs:Array Bool) (args:List Value) (K:Value→Hp→Prop) (h:Hp):Prop:=
 hw P (builtin b ts ty cs args.toArray) (Xx P T K) h
def fQ (F:Env):List Operand→List Value
 | []=>[]
 | x :: l=>ev F x :: fQ F l
theorem GW (F:Env) (l:List Operand):fQ F l=l.map (ev F):=by induction l with|nil=>rfl|cons x l ih=>simp[fQ,ih]
def nth {α:Type}:List α→Nat→Option α
 | [],_=>none
 | x :: _,0=>some x
 | _ :: l,n+1=>nth l n
def PN (n:Nat) (i:Nat):Option (Nat × Nat):=some (i*n,n)
def Un (place:Nat→Option (Nat × Nat)):List Value→List (Nat × Value)→Option (List Value)
 | cs,[]=>some cs
 | cs,(i,v) :: l=>match place i with
  | some (o,s)=>if (cl v).length=s∧o+s≤cs.length then Un place (Yw cs o (cl v)) l else none
  | none=>none
def BL (F:Env):List (Nat × Operand)→List (Nat × Value)
 | []=>[]
 | (i,x) :: l=>(i,ev F x) :: BL F l
def Lm (n:Option Nat) (z:List Value) (parts:List (Nat × Value)) (K:Value→Hp→Prop) (h:Hp):Prop:=
 match n with|some n=>LS (Un (PN n) z parts) K h|none=>False
def RL (z:Option (List Value)) (pl:Option (List (Nat × Nat))) (arr:Option (Nat × TypeId)) (n:TypeId→Option Nat) (parts:List (Nat × Value)) (K:Value→Hp→Prop) (h:Hp):Prop:=
 match z,pl,arr with
 | some z,some pl,none=>LS (Un (nth pl) z parts) K h
 | some z,none,some (_,e)=>Lm (n e) z parts K h
 | _,_,_=>False
def XZ:Nat→List Value→List Value
 | 0,_=>[]
 | n+1,z=>z++XZ n z
def BM:Nat→List (Nat × Value)→Option (List Value)
 | _,[]=>some []
 | k,(i,v) :: l=>if i=k∧Z6 v=true then (BM (k+1) l).map (v :: ·) else none
def di (e:TypeId) (len:Nat) (x:Option (List Value)) (K:Value→Hp→Prop) (h:Hp):Prop:=
 match x with|some l=>K (.slice (some ⟨h.size,0,none⟩) len len) (h.push (.cells l.toArray e))|none=>False
def Ln (n len:Nat) (z:List Value) (parts:List (Nat × Value)):Option (List Value):=
 if n=1∧parts.length=len then BM 0 parts else Un (PN n) (XZ len z) parts
def SK (e:TypeId) (n:Option Nat) (z:Option (List Value)) (len:Nat) (parts:List (Nat × Value)) (K:Value→Hp→Prop) (h:Hp):Prop:=
 match n,z with
 | some n,some z=>if z.length=n∧len*n≤16777216 then di e len (Ln n len z parts) K h else False
 | _,_=>False
def PO (e:Option TypeId) (n:TypeId→Option Nat) (z:TypeId→Option (List Value)) (len:Nat) (parts:List (Nat × Value)) (K:Value→Hp→Prop) (h:Hp):Prop:=
 match e with
 | some e=>SK e (n e) (z e) len parts K h
 | none=>False
def Ma (a:Option Bool) (n:Option Nat) (cs:List Value) (o:Nat) (K:Value→Hp→Prop) (h:Hp):Prop:=
 match a,n with
 | some true,some n=>K (.agg ((cs.drop o).take n).toArray) h
 | some false,_=>MU (nth cs o) K h
 | _,_=>False
def lV (f:Option (Nat × TypeId)) (a:TypeId→Option Bool) (n:TypeId→Option Nat) (x:Value) (K:Value→Hp→Prop) (h:Hp):Prop:=
 match f,x with
 | some (o,t),.agg cs=>Ma (a t) (n t) cs.toList o K h
 | _,_=>False
def dj (m:Option Nat) (a:Option Bool) (len:Nat) (cs:List Value) (i:Int) (K:Value→Hp→Prop) (h:Hp):Prop:=
 match m with|some m=>if 0≤i∧i<(len:Int) then Ma a (some m) cs (i.toNat*m) K h else False|none=>False
def fR (arr:Option (Nat × TypeId)) (str:Bool) (a:TypeId→Option Bool) (n:TypeId→Option Nat) (x i:Value) (K:Value→Hp→Prop) (h:Hp):Prop:=
 match i with
 | .int _ i=>(match arr,str,x with
  | some (len,e),false,.agg cs=>dj (n e) (a e) len cs.toList i K h
  | none,true,.string s=>if 0≤i∧i<(s.size:Int) then K (.int .u8 ((s.data.toList.getD i.toNat 0).toNat:Nat)) h else False
  | _,_,_=>False)
 | _=>False
def sb (x:Option Value) (d y:Nat):Option Nat:=
 match x with
 | none=>some d
 | some (.int _ i)=>if 0≤i∧i≤(y:Int) then some i.toNat else none
 | _=>none
def dk (F:Env):Option Operand→Option Value
 | none=>none
 | some x=>some (ev F x)
def TO (n:Option Nat) (a:Option Addr) (len cap:Nat) (lo hi:Option Value) (K:Value→Hp→Prop) (h:Hp):Prop:=
 match n,sb hi len cap with
 | some n,some b=>(match sb lo 0 b with
  | some l=>K (.slice (if cap=l then a else a.map (·.add (l*n))) (b-l) (cap-l)) h
  | none=>False)
 | _,_=>False
def IT (arr:Option (Nat × TypeId)) (sl:Option TypeId) (str:Bool) (n:TypeId→Option Nat) (x:Value) (lo hi mx:Option Value) (K:Value→Hp→Prop) (h:Hp):Prop:=
 match mx,x,arr,sl,str with
 | some mv,.slice a len cap,none,some e,_=>(match hi,sb (some mv) 0 cap with
  | some hv,some m=>TO (n e) a len m lo (some hv) K h
  | _,_=>False)
 | none,.slice a len cap,none,some e,_=>TO (n e) a len cap lo hi K h
 | none,.pointer (some a),some (len,e),none,_=>TO (n e) (some a) len len lo hi K h
 | none,.string s,none,none,true=>(match sb hi s.size s.size with
  | some b=>(match sb lo 0 b with|some l=>K (.string (s.extract l b)) h|none=>False)
  | none=>False)
 | _,_,_,_,_=>False
def uh (e:TypeId) (n:Option Nat) (by':Option Nat) (z:Option (List Value)) (l c:Int) (K:Value→Hp→Prop) (h:Hp):Prop:=
 match n,by',z with
 | some n,some bytes,some z=>if z.length=n∧0≤l∧l≤c∧c≤9223372036854775807∧(bytes:Int)*c≤281474976710656 then K (.slice (some ⟨h.size,0,none⟩) l.toNat c.toNat) (h.push (.cells (XZ c.toNat z).toArray e)) else False
 | _,_,_=>False
def vMk (e:Option TypeId) (n by':TypeId→Option Nat) (z:TypeId→Option (List Value)) (l c:Value) (K:Value→Hp→Prop) (h:Hp):Prop:=
 match e,l,c with
 | some e,.int _ l,.int _ c=>uh e (n e) (by' e) (z e) l c K h
 | _,_,_=>False
def WQ (op:Op) (ty:TypeId) (K:Value→Hp→Prop) (F:Env) (h:Hp):Prop:=
 match op with
 | .move x|.assign x=>K (ev F x) h
 | .pick c a b=>HH (ev F c) (ev F a) (ev F b) K h
 | .alloc e=>lU (tz P e) e K h
 | .box e x=>lU (some (cl (ev F x))) e K h
 | .load t a=>PM (ta P t) (tn P t) (ev F a) K h
 | .store t a x=>UH (tn P t) (ev F a) (ev F x) K h
 | .fieldAddr t x i=>RK (tf P t i) (ev F x) K h
 | .indexAddr t x i=>zc (YF P t) (JD P t) (tn P) (ev F x) (ev F i) K h
 | .nilCheck x=>BK (ev F x) K h
 | .binOp op t x y _=>Y6 P op t x y (ev F x) (ev F y) K h
 | .unOp op _ x=>vUn P op (ev F x) K h
 | .convert s d x=>VJ P s d (ev F x) K h
 | .extract x i=>Um (ev F x) i K h
 | .makeFunc fn first captured=>K (.func fn (fQ F first.toList).toArray (fQ F captured.toList).toArray) h
 | .call ⟨.value f,args,_⟩=>LU P T (ev F f) (fQ F args.toList) K h
 | .call ⟨.builtin b,args,ts⟩=>T6 P T b ts ty (args.map fun|.const _=>true|_=>false) (fQ F args.toList) K h
 | .build t parts=>RL (tz P t) (Rb P t) (YF P t) (tn P) (BL F parts.toList) K h
 | .buildSlice t len parts=>PO (JD P t) (tn P) (tz P) len (BL F parts.toList) K h
 | .field t x i=>lV (tfl P t i) (ta P) (tn P) (ev F x) K h
 | .index t x i=>fR (YF P t) (Ul P t) (ta P) (tn P) (ev F x) (ev F i) K h
 | .slice t x lo hi mx=>IT (YF P t) (JD P t) (Ul P t) (tn P) (ev F x) (dk F lo) (dk F hi) (dk F mx) K h
 | .makeSlice t l c=>vMk (JD P t) (tn P) (tb P) (tz P) (ev F l) (ev F c) K h
 | op=>IQ P T ⟨none,op,ty, "", #[],none⟩ K F h
end
section
variable {P:Program} {T:World} {K:Value→Hp→Prop} {F:Env} {h:Hp} {ty:TypeId}
theorem BN {Q:Program→Hp→Prop}:hw P program Q h=Q P h:=rfl
theorem Zw {α:Type} {Q:α→Hp→Prop} (a:α):hw P (pure a) Q h=Q a h:=rfl
theorem Xf {t:TypeId} {d:TypeInfo} (hd:P.info? t=some d) {Q:TypeInfo→Hp→Prop}:hw P (typeInfo t) Q h=Q d h:=by
 simp only[typeInfo];rw[Zf];simp only[program,hw];rw[hd];rfl
theorem Zt {t:TypeId} {d:TypeDesc} (hd:P.underlying t=some d) {Q:TypeDesc→Hp→Prop}:hw P (underlying t) Q h=Q d h:=by
 simp only[underlying];rw[Zf];simp only[program,hw];rw[hd];rfl
theorem run_sizeOf {t:TypeId} {n:Nat} (hn:tn P t=some n) {Q:Nat→Hp→Prop}:hw P (sizeOf t) Q h=Q n h:=by
 unfold tn at hn
 cases hi:P.info? t with
 | none=>rw[hi]at hn;cases hn
 | some i=>
  rw[hi]at hn;simp only[Option.map_some,Option.some.injEq]at hn;subst hn;unfold sizeOf;rw[Zf,Xf hi];rfl
theorem U1 {t:TypeId} {b:Bool} (hb:ta P t=some b) {Q:Bool→Hp→Prop}:hw P (isAgg t) Q h=Q b h:=by
 unfold ta at hb
 cases hi:P.underlying t with
 | none=>rw[hi]at hb;cases hb
 | some d=>
  rw[hi]at hb;simp only[Option.map_some,Option.some.injEq]at hb;subst hb;unfold isAgg;rw[Zf,Zt hi]
  cases d<;>rfl
theorem Y1 (b o n:Nat):Addr.add ⟨b,o,none⟩ n=⟨b,o+n,none⟩:=by
 unfold Addr.add;split
 ·rename_i h;subst h;rfl
 ·rfl
theorem SL (a:Addr) (n:Nat) (ha:a.spot=none):a.add n=⟨a.block,a.off+n,none⟩:=by
 obtain⟨b,o,s⟩:=a;simp only at ha;subst ha;exact Y1 b o n
theorem run_loadCells (a:Addr) (c:List Value) {Q:Array Value→Hp→Prop}:∀(n i:Nat) (acc:Array Value),
  (∀j,j<n→hc h (a.add (i+j))=some (c.getD j undef))→n=c.length→Q (acc++c.toArray) h→hw P (loadCellsFrom a i n acc) Q h:=by
 induction c with
 | nil=>intro n i acc _ hn H;subst hn;simpa [loadCellsFrom,pure,hw] using H
 | cons v c ih=>
  intro n i acc hj hn H;subst hn;show hw P (load (a.add i) >>= fun v=>loadCellsFrom a (i+1) c.length (acc.push v)) Q h;rw[Zf];refine⟨v,by simpa using hj 0 (by simp),?_⟩;refine ih _ (i+1) _ (fun j BO=>?_) rfl ?_
  ·have:=hj (j+1) (by simp;omega);have e:i+(j+1)=i+1+j:=by omega
   rw[e]at this
   simpa using this
  ·simpa using H
theorem BP {t:TypeId} {v:Value} (H:PM (ta P t) (tn P t) v K h):hw P (Instr.loadAt t v) K h:=by
 unfold PM at H;split at H
 ·rename_i a;unfold Instr.loadAt;rw[Zf];show hw P (loadVar t a) K h;unfold loadVar;rw[Zf];split at H
  ·rename_i hs;rw[U1 hs];unfold MU at H;split at H
   ·rename_i v hv;exact⟨v,hv,H⟩
   ·exact H.elim
  ·rename_i n hs hn;rw[U1 hs];simp only[if_true];rw[Zf,run_sizeOf hn,Zf];unfold LS at H;split at H
   ·rename_i l hl;unfold rd at hl;split at hl
    ·rename_i c e fr hb;split at hl
     ·rename_i PQ;obtain⟨h1,h2⟩:=PQ;simp only[Option.some.injEq]at hl;subst hl;have hlen:((c.toList.drop a.off).take n).length=n:=by simp;omega
      refine run_loadCells a _ n 0 #[] (fun j hj=>?_) hlen.symm (by simpa [Zw] using H);rw[SL a _ h1];unfold hc;rw[hb];simp only[Option.isSome_none,Bool.false_eq_true,if_false];rw[List.getD_eq_getElem?_getD,List.getElem?_take,if_pos hj,List.getElem?_drop];have e:a.off+(0+j)=a.off+j:=by omega
      rw[e];simp;rw[Array.getElem?_eq_getElem (by omega)];rfl
     ·cases hl
    ·cases hl
   ·exact H.elim
  ·exact H.elim
 ·exact H.elim
theorem run_store {a:Addr} {v:Value} {Q:Unit→Hp→Prop}:hw P (store a v) Q h=(Z6 v=true∧(∃u,hc h a=some u)∧lL h a=false∧Q () (fL h a v)):=rfl
theorem ui {a:Addr} {c:Array Value} {e:TypeId} {fr:Nat × Nat} (hb:h[a.block]? = some (.cells c e fr)) (hs:a.spot=none) (v:Value) :
  fL h a v=h.setIfInBounds a.block (.cells (c.setIfInBounds a.off v) e fr):=by
 obtain⟨ZD,BQ⟩:=Array.getElem?_eq_some_iff.1 hb;unfold fL;apply Array.ext_getElem?;intro i;rw[Array.getElem?_modify,Array.getElem?_setIfInBounds];by_cases hi:a.block=i
 ·subst hi;simp[BQ,hs,ZD]
 ·simp[hi]
theorem VK (l:List Value) (n:Nat) (v:Value) (vs:List Value):Yw l n (v :: vs)=Yw (l.set n v) (n+1) vs:=by
 induction l generalizing n with
 | nil=>cases vs<;>simp[Yw]
 | cons x l ih=>
  cases n with
  | zero=>
   simp only[Yw,List.set_cons_zero]
   cases vs with
   | nil=>simp[Yw]
   | cons u us=>simp[Yw]
  | succ n=>
   simp only[Yw,List.set_cons_succ];rw[ih]
   cases vs with
   | nil=>simp[Yw]
   | cons u us=>simp[Yw]
theorem Yi {a:Addr} {e:TypeId} {lo hi:Nat} {Q:Unit→Hp→Prop} (hs:a.spot=none) (ZkX:hi≤lo):∀(vs:List Value) (i:Nat) (h:Hp) (c:Array Value),
  h[a.block]? = some (.cells c e (lo,hi))→a.off+i+vs.length≤c.size→vs.all Z6=true →
  Q () (h.setIfInBounds a.block (.cells (Yw c.toList (a.off+i) vs).toArray e (lo,hi)))→hw P (storeCells a vs i) Q h
 | [],i,h,c,hb,_,_,H=>by
  have e:h.setIfInBounds a.block (.cells (Yw c.toList (a.off+i) []).toArray e (lo,hi))=h:=by
   have ZD:=(Array.getElem?_eq_some_iff.1 hb).1;apply Array.ext_getElem?;intro j;rw[Array.getElem?_setIfInBounds];by_cases hj:a.block=j
   ·subst hj;rw[if_pos rfl,if_pos ZD,hb];simp[Yw]
   ·simp[hj]
  rw[e]at H;exact H
 | v :: vs,i,h,c,hb,hlen,Y9,H=>by
  simp only[List.all_cons,Bool.and_eq_true]at Y9;simp only[List.length_cons]at hlen;show hw P (store (a.add i) v >>= fun _=>storeCells a vs (i+1)) Q h;rw[Zf,run_store,SL a i hs];have ZD:a.block<h.size:=(Array.getElem?_eq_some_iff.1 hb).1;refine⟨Y9.1,?_,?_,?_⟩
  ·unfold hc;simp only[hb];refine⟨c[a.off+i]'(by omega),?_⟩;simp only[Option.isSome_none,Bool.false_eq_true,if_false];rw[Array.getElem?_eq_getElem (by omega)]
  ·unfold lL;simp only[hb];simp;omega
  ·have XU:h[({ block:=a.block,off:=a.off+i,spot:=none }:Addr).block]? = some (.cells c e (lo,hi)):=hb;rw[ui XU rfl];have Lo:(h.setIfInBounds a.block (.cells (c.setIfInBounds (a.off+i) v) e (lo,hi)))[a.block]? = some (.cells (c.setIfInBounds (a.off+i) v) e (lo,hi)):=by
    simp[ZD]
   refine Yi hs ZkX vs (i+1) _ _ Lo (by simp;omega) Y9.2 ?_;have e2:(h.setIfInBounds a.block (.cells (c.setIfInBounds (a.off+i) v) e (lo,hi))).setIfInBounds a.block
     (.cells (Yw (c.setIfInBounds (a.off+i) v).toList (a.off+(i+1)) vs).toArray e (lo,hi)) =
     h.setIfInBounds a.block (.cells (Yw c.toList (a.off+i) (v :: vs)).toArray e (lo,hi)):=by
    rw[VK,Array.toList_setIfInBounds];rw[Array.setIfInBounds_setIfInBounds,Nat.add_assoc]
   rw[e2];exact H
theorem EF {t:TypeId} {p v:Value} (H:UH (tn P t) p v K h):hw P (Instr.storeAt t p v) (fun _ h=>K undef h) h:=by
 unfold UH at H;split at H
 ·rename_i a n hn;unfold Instr.storeAt;rw[Zf];show hw P (storeVar t a v) _ h;unfold storeVar;split at H
  ·rename_i hlen;have zd:v.cells.size=n:=by rw[←PK,hlen];simp
   rw[Zf,run_sizeOf hn];simp only[zd,ne_eq,not_true_eq_false,if_false];show hw P (storeCells a v.cells.toList) _ h;split at H
   ·rename_i cs;unfold dh at H;split at H
    ·rename_i h' hh;unfold wr at hh;split at hh
     ·rename_i c e lo hi hb;split at hh
      ·rename_i Zaz;obtain⟨h1,h2,h3,h4⟩:=Zaz;simp only[Option.some.injEq]at hh;subst hh;exact Yi h1 h3 cs.toList 0 h c hb h2 h4 H
      ·cases hh
     ·cases hh
    ·exact H.elim
   ·rename_i hna;have ZaA:v.cells.toList=[v]:=by cases v<;>first|rfl|exact (hna _ rfl).elim
    rw[ZaA];unfold dh at H;split at H
    ·rename_i h' hh;unfold JK at hh;split at hh
     ·rename_i c e lo hi hb;split at hh
      ·rename_i Zaz;obtain⟨h1,h2,h3,h4⟩:=Zaz;simp only[Option.some.injEq]at hh;subst hh;refine Yi h1 h3 [v] 0 h c hb (by simp;omega) (by simpa using h4) ?_;have e1:(Yw c.toList (a.off+0) [v]).toArray=c.setIfInBounds a.off v:=by
        rw[VK,Nat.add_zero];apply Array.toList_inj.1;rw[Array.toList_setIfInBounds]
        cases h9:(c.toList.set a.off v)<;>simp[Yw]
       rw[e1];exact H
      ·cases hh
     ·cases hh
    ·exact H.elim
  ·exact H.elim
 ·exact H.elim
theorem EG {t:TypeId} {p:Value} {i:Nat} (H:RK (tf P t i) p K h):hw P (Instr.fieldAt t p i) K h:=by
 unfold RK at H;split at H
 ·rename_i o a hf;unfold tf at hf;split at hf
  ·rename_i fs hu;unfold Instr.fieldAt;rw[Zf,Zt hu]
   cases EH:fs[i]? with
   | none=>rw[EH]at hf;cases hf
   | some f=>
    rw[EH]at hf;simp only[Option.bind_some]at hf;split at hf
    ·rename_i m hm;simp only[Option.some.injEq]at hf;subst hf;simp only[EH];simp only[Instr.sureAddr,fieldPlace,Zf,Zw,run_sizeOf hm,if_neg (Nat.succ_ne_zero m)];exact H
    ·cases hf
  ·cases hf
 ·exact H.elim
theorem lW {t:TypeId} {p i:Value} (H:zc (YF P t) (JD P t) (tn P) p i K h):hw P (Instr.indexAt t p i) K h:=by
 unfold zc at H;split at H
 ·rename_i k i;split at H
  ·rename_i len e a ha hs;split at H
   ·rename_i n hn;unfold YF at ha;split at ha
    ·rename_i m e' hu;simp only[Option.some.injEq,Prod.mk.injEq]at ha;obtain⟨rfl,rfl⟩:=ha;split at H
     ·rename_i hb;simp only[Instr.indexAt,asIntOf,Instr.sureAddr,Zf,Zw,Zt hu,if_pos hb,run_sizeOf hn];exact H
     ·exact H.elim
    ·cases ha
   ·exact H.elim
  ·rename_i e a len cap ha hs;split at H
   ·rename_i n hn;unfold JD at hs;split at hs
    ·rename_i e' hu;simp only[Option.some.injEq]at hs;subst hs;split at H
     ·rename_i hb;simp only[Instr.indexAt,asIntOf,Instr.sureAddr,Zf,Zw,Zt hu,if_pos hb,run_sizeOf hn];exact H
     ·exact H.elim
    ·cases hs
   ·exact H.elim
  ·exact H.elim
 ·exact H.elim
theorem IU {v:Value} {i:Nat} (H:Um v i K h):hw P (Instr.extract v i) K h:=by
 unfold Um at H;split at H
 ·rename_i vs;unfold MU at H;split at H
  ·rename_i v hv;simp only[Instr.extract,hv];exact H
  ·exact H.elim
 ·exact H.elim
theorem BR {x:Operand} {f:Value} {c:Call} {args:List Value} (hc:c.callee=.value x) (hf:ev F x=f) (ha:(c.args.map (ev F)).toList=args) (H:LU P T f args K h) :
  hw P (do let d ←resolve (ev F) c ty;invoke d.target d.args) (Xx P T K) h:=by
 unfold LU at H;split at H
 ·rename_i f first captured;have e:first++c.args.map (ev F)++captured=(first.toList++args++captured.toList).toArray:=by rw[←ha];simp
  by_cases hg:goes P f=true
  case neg=>
   rw[if_neg hg]at H;simp only[resolve,hc,hf,Deferred.ofValue,Zf,Zw,invoke];rw[e];exact H
  rw[if_pos hg]at H;unfold goes at hg;split at hg
  ·rename_i fn uj;simp only[Bool.and_eq_true,Bool.not_eq_true']at hg;have Zed:fn.body.isNone=false:=by
    cases hb:fn.body with
    | none=>rw[hb]at hg;simp at hg
    | some _=>rfl
   simp only[resolve,hc,hf,Deferred.ofValue,Zf,Zw,invoke,callFunc,BN,uj,hg.1,Bool.false_eq_true,if_false,Zed];rw[e];exact H
  ·cases hg
 ·exact H.elim
theorem Lp {t:TypeId} {z:List Value} (hz:tz P t=some z):∃v,v.cells=z.toArray∧∀{Q:Value→Hp→Prop} {h:Hp},hw P (zeroValue t) Q h=Q v h:=by
 unfold tz at hz
 cases hi:P.info? t with
 | none=>rw[hi]at hz;cases hz
 | some i=>
  rw[hi]at hz
  cases Lq:i.zero with
  | none=>rw[Option.bind_some,Lq]at hz;cases hz
  | some v=>
   rw[Option.bind_some,Lq]at hz;simp only[Option.map_some,Option.some.injEq]at hz;refine⟨v,by rw[←hz,Array.toArray_toList],fun {Q h}=>?_⟩;unfold zeroValue;rw[Zf,Xf hi];simp only[Lq];rfl
theorem HI (off:Nat):∀(vs:List Value) (k:Nat) (cells:Array Value),
  ((vs.zipIdx k).foldl (fun (cs:Array Value) (x:Value × Nat)=>cs.setIfInBounds (off+x.2) x.1) cells).toList=Yw cells.toList (off+k) vs
 | [],k,cells=>by cases h:cells.toList<;>simp[Yw,h]
 | v :: vs,k,cells=>by
  rw[List.zipIdx_cons,List.foldl_cons,HI off vs (k+1),VK,Array.toList_setIfInBounds,Nat.add_assoc]
theorem Lr {place:Nat→Option (Nat × Nat)}:∀(parts:List (Nat × Value)) (cs:List Value) (lX:List Value),Un place cs parts=some lX→Instr.fill place cs.toArray parts=some lX.toArray
 | [],cs,lX,h=>by simp only[Un,Option.some.injEq]at h;subst h;rfl
 | (i,v) :: l,cs,lX,h=>by
  unfold Un at h;unfold Instr.fill
  cases hp:place i with
  | none=>rw[hp]at h;cases h
  | some os=>
   obtain⟨o,s⟩:=os;rw[hp]at h;simp only at h ⊢;split at h
   ·rename_i hc;have zd:v.cells.size=s:=by rw[←PK];simpa using hc.1
    have PQ:¬((decide (v.cells.size≠s)||decide (o+v.cells.size>cs.toArray.size))=true):=by
     rw[zd];simp;omega
    rw[if_neg PQ];have e:(v.cells.zipIdx.foldl (fun (cs:Array Value) (x:Value × Nat)=>cs.setIfInBounds (o+x.2) x.1) cs.toArray)=(Yw cs o (cl v)).toArray:=by
     apply Array.toList_inj.1;have:=HI o (cl v) 0 cs.toArray;rw[←PK,Array.zipIdx,←Array.foldl_toList];have e3:(cl v).mapIdx (fun i a=>(a,i))=(cl v).zipIdx 0:=by
      apply List.ext_getElem?;intro i;simp[List.getElem?_zipIdx]
     simpa [Array.zipIdx,e3] using this
    have key:=Lr l _ _ h;rw[←e]at key;exact key
   ·cases h
theorem Yj {α:Type} (l:List α) (n:Nat):nth l n=l[n]?:=by
 induction l generalizing n with
 | nil=>simp[nth]
 | cons x l ih=>cases n<;>simp[nth,ih]
theorem dm (F:Env) (l:List (Nat × Operand)):BL F l=l.map fun x=>(x.1,ev F x.2):=by
 induction l with
 | nil=>rfl
 | cons x l ih=>obtain⟨i,x⟩:=x;simp[BL,ih]
theorem run_places:∀(l:List Field) (Q:List (Nat × Nat)→Hp→Prop) (pl:List (Nat × Nat)),l.mapM (fun f:Field=>(tn P f.type).map fun n=>(f.offset,n))=some pl →
  Q pl h→hw P (l.mapM fun f:Field=>do pure (f.offset,←sizeOf f.type)) Q h
 | [],Q,pl,hp,H=>by
  simp only[List.mapM_nil,pure,Option.some.injEq]at hp;subst hp;exact H
 | f :: l,Q,pl,hp,H=>by
  rw[List.mapM_cons]at hp
  cases hn:tn P f.type with
  | none=>rw[hn]at hp;cases hp
  | some n=>
   rw[hn]at hp
   cases hl:l.mapM (fun f:Field=>(tn P f.type).map fun n=>(f.offset,n)) with
   | none=>simp[hl]at hp
   | some pl'=>
    simp[hl]at hp;subst hp;rw[List.mapM_cons,Zf,Zf,run_sizeOf hn];show hw P (_ >>= _) Q h;rw[Zf];exact run_places l _ pl' hl H
theorem EI {t:TypeId} {parts:Array (Nat × Operand)} (H:RL (tz P t) (Rb P t) (YF P t) (tn P) (BL F parts.toList) K h):hw P (Instr.build t (parts.map fun (i,x)=>(i,ev F x))) K h:=by
 have e1:(parts.map fun (i,x)=>(i,ev F x)).toList=BL F parts.toList:=by rw[dm,Array.toList_map]
 unfold Instr.build;rw[e1];unfold RL at H;split at H
 ·rename_i z pl hz LV _;obtain⟨v,hv,ZaB⟩:=Lp hz;rw[Zf,ZaB,Zf,hv];unfold Rb at LV;split at LV
  ·rename_i fs hu;rw[Zt hu];simp only;rw[Zf,←Array.toArray_toList (xs:=fs),List.mapM_toArray,map_eq_pure_bind,Zf];refine run_places fs.toList _ pl LV ?_;unfold LS at H;split at H
   ·rename_i cs YQ;have e2:(fun i=>pl.toArray[i]?)=nth pl:=by funext i;rw[Yj];simp
    have:=Lr _ _ _ YQ;rw[←e2]at this;simp only[Zw,this];exact H
   ·exact H.elim
  ·cases LV
 ·rename_i z n e hz _ ha;obtain⟨v,hv,ZaB⟩:=Lp hz;rw[Zf,ZaB,Zf,hv];unfold YF at ha;split at ha
  ·rename_i n' e' hu;simp only[Option.some.injEq,Prod.mk.injEq]at ha;obtain⟨rfl,rfl⟩:=ha;rw[Zt hu];simp only;unfold Lm at H;split at H
   ·rename_i m hm;rw[Zf,run_sizeOf hm];unfold LS at H;split at H
    ·rename_i cs YQ;have:=Lr _ _ _ YQ;have e2:(fun i=>some (i*m,m))=PN m:=rfl;rw[e2];simp only[this];exact H
    ·exact H.elim
   ·exact H.elim
  ·cases ha
 ·exact H.elim
theorem dn (z:List Value) (hz:z≠[]):∀(len:Nat),(Array.range (len*z.length)).map (fun j=>z.toArray[j%z.toArray.size]!)=(XZ len z).toArray:=by
 have LW:0<z.length:=List.length_pos_iff.2 hz;have hlen:∀len,(XZ len z).length=len*z.length:=by
  intro len
  induction len with
  | zero=>simp[XZ]
  | succ n ih=>simp[XZ,ih,Nat.add_mul,Nat.add_comm]
 have BQ:∀len j,j<len*z.length→(XZ len z)[j]? = z[j%z.length]?:=by
  intro len
  induction len with
  | zero=>intro j hj;simp at hj
  | succ n ih=>
   intro j hj;simp only[XZ];by_cases BO:j<z.length
   ·rw[List.getElem?_append_left BO,Nat.mod_eq_of_lt BO]
   ·rw[List.getElem?_append_right (by omega),ih (j-z.length) (by rw[Nat.add_mul]at hj;omega)];rw[Nat.mod_eq_sub_mod (by omega:j ≥ z.length)]
 intro len;apply Array.ext_getElem?;intro j;by_cases hj:j<len*z.length
 ·have ZkY:j%z.length<z.length:=Nat.mod_lt _ LW;simp[hj,BQ len j hj,ZkY]
 ·have h2:(XZ len z)[j]? = none:=List.getElem?_eq_none (by rw[hlen];omega);simp[hj,h2]
theorem T9 (z:List Value):∀n,(XZ n z).length=n*z.length:=by
 intro len
 induction len with
 | zero=>simp[XZ]
 | succ n ih=>simp[XZ,ih,Nat.add_mul,Nat.add_comm]
theorem HJ:∀(parts:List (Nat × Value)) (pre vs rest:List Value),BM pre.length parts=some vs→rest.length=parts.length→Un (PN 1) (pre++rest) parts=some (pre++vs)
 | [],pre,vs,rest,h,hl=>by
  simp only[BM,Option.some.injEq]at h;subst h;have:rest=[]:=List.eq_nil_of_length_eq_zero (by simpa using hl);simp[Un,this]
 | (i,v) :: l,pre,vs,rest,h,hl=>by
  unfold BM at h;split at h
  ·rename_i hc;obtain⟨rfl,hv⟩:=hc
   cases hs:BM (pre.length+1) l with
   | none=>rw[hs]at h;cases h
   | some us=>
    rw[hs]at h;simp only[Option.map_some,Option.some.injEq]at h;subst h
    cases rest with
    | nil=>simp at hl
    | cons r rest=>
     have XR:cl v=[v]:=by cases v<;>first|rfl|(simp[Z6]at hv)
     have e1:Yw (pre++r :: rest) pre.length [v]=(pre++[v])++rest:=by
      rw[VK];simp[Yw]
     have ih:=HJ l (pre++[v]) us rest (by simpa using hs) (by simpa using hl);simp only[Un,PN,XR,Nat.mul_one,List.length_cons,List.length_nil,List.length_append];rw[if_pos (by simp),e1,ih];simp
  ·cases h
theorem IV {t:TypeId} {len:Nat} {parts:Array (Nat × Operand)} (H:PO (JD P t) (tn P) (tz P) len (BL F parts.toList) K h):hw P (Instr.buildSlice t len (parts.map fun (i,x)=>(i,ev F x))) K h:=by
 have e1:(parts.map fun (i,x)=>(i,ev F x)).toList=BL F parts.toList:=by rw[dm,Array.toList_map]
 unfold Instr.buildSlice;rw[e1];unfold PO at H;split at H
 ·rename_i e he;unfold JD at he;split at he
  ·rename_i e' hu;simp only[Option.some.injEq]at he;subst he;unfold SK at H;split at H
   ·rename_i n z hn hz;split at H
    ·rename_i hc;obtain⟨Bt,hle⟩:=hc;unfold di at H;split at H
     ·rename_i l hl;have Zee:Un (PN n) (XZ len z) (BL F parts.toList)=some l:=by
       unfold Ln at hl;split at hl
       ·rename_i hc;obtain⟨rfl,LV⟩:=hc;have:=HJ (BL F parts.toList) [] l (XZ len z) hl (by rw[T9,Bt,LV,Nat.mul_one])
        simpa using this
       ·exact hl
      rw[Zf,Zt hu];simp only;rw[Zf,run_sizeOf hn,if_neg (by omega)];have fin:∀z':Array Value,(Array.range (len*n)).map (fun j=>z'[j%z'.size]!)=(XZ len z).toArray→hw P (match Instr.fill (fun i=>some (i*n,n)) ((Array.range (len*n)).map (fun j=>z'[j%z'.size]!)) (BL F parts.toList) with
        | some cells=>do
         let a ←newRow e' cells
         pure (Value.slice (some a) len len)
        | x=>stuck "buildSlice: a part of the wrong size") K h:=by
       intro z' EJ;have:=Lr _ _ _ Zee;have e2:(fun i=>some (i*n,n))=PN n:=rfl;rw[e2,EJ];simp only[this];exact H
      split
      ·rename_i h0;refine fin #[] ?_;have:(XZ len z).length=0:=by rw[T9,Bt,h0]
       rw[List.eq_nil_of_length_eq_zero this,h0];simp
      ·rename_i h0;obtain⟨v,hv,hr⟩:=Lp hz;rw[Zf,hr];refine fin v.cells ?_;have:z≠[]:=by intro e;subst e;simp at Bt;subst Bt;simp at h0
       rw[hv,←Bt];exact dn z this len
     ·exact H.elim
    ·exact H.elim
   ·exact H.elim
  ·cases he
 ·exact H.elim
theorem LX {t:TypeId} {cs:Array Value} {o:Nat} (H:Ma (ta P t) (tn P t) cs.toList o K h):hw P (part t cs o) K h:=by
 unfold Ma at H;unfold part;rw[Zf];split at H
 ·rename_i n ha hn;rw[U1 ha,if_pos rfl,Zf,run_sizeOf hn];have e:(cs.extract o (o+n))=((cs.toList.drop o).take n).toArray:=by
   apply Array.toList_inj.1;simp[List.extract_eq_take_drop]
  rw[e];exact H
 ·rename_i ha;rw[U1 ha,if_neg (by simp)];unfold MU at H;split at H
  ·rename_i v hv;rw[Yj]at hv;have:cs[o]? = some v:=by rw[←Array.getElem?_toList];exact hv
   simp only[this];exact H
  ·exact H.elim
 ·exact H.elim
theorem fS {t:TypeId} {x:Value} {i:Nat} (H:lV (tfl P t i) (ta P) (tn P) x K h):hw P (Instr.field t x i) K h:=by
 unfold lV at H;split at H
 ·rename_i o ft cs hf;unfold tfl at hf;split at hf
  ·rename_i fs hu;unfold Instr.field;rw[Zf,Zt hu]
   cases EH:fs[i]? with
   | none=>rw[EH]at hf;cases hf
   | some f=>
    rw[EH]at hf;simp only[Option.map_some,Option.some.injEq,Prod.mk.injEq]at hf;obtain⟨rfl,rfl⟩:=hf;simp only[EH];exact LX H
  ·cases hf
 ·exact H.elim
theorem fU {t:TypeId} {x i:Value} (H:fR (YF P t) (Ul P t) (ta P) (tn P) x i K h):hw P (Instr.index t x i) K h:=by
 unfold fR at H;split at H
 ·rename_i k i;split at H
  ·rename_i len e cs ha _;unfold YF at ha;split at ha
   ·rename_i n' e' hu;simp only[Option.some.injEq,Prod.mk.injEq]at ha;obtain⟨rfl,rfl⟩:=ha;unfold dj at H;split at H
    ·rename_i m hm;split at H
     ·rename_i hc;unfold Instr.index;simp only[asIntOf,Zf,Zw,Zt hu,if_pos hc,run_sizeOf hm];exact LX (by rw[hm];exact H)
     ·exact H.elim
    ·exact H.elim
   ·cases ha
  ·rename_i s _ hs;unfold Ul at hs;split at hs
   ·rename_i hu;split at H
    ·rename_i hc;unfold Instr.index;have ZD:i.toNat<s.size:=by omega
     have e:s[i.toNat]? = some s[i.toNat]:=by exact getElem?_pos s i.toNat ZD
     have e2:s.data.toList.getD i.toNat 0=s[i.toNat]:=by
      have IW:i.toNat<s.data.toList.length:=by simpa using ZD
      rw[List.getD_eq_getElem?_getD,List.getElem?_eq_getElem IW,Option.getD_some];rfl
     simp only[asIntOf,Zf,Zw,Zt hu,if_pos hc.1,e];rw[e2]at H;exact H
    ·exact H.elim
   ·cases hs
  ·exact H.elim
 ·exact H.elim
theorem LY {x:Option Value} {v:Value} {y n:Nat} {c:BoundsCode} (hx:x=some v) (hs:sb x 0 y=some n) {Q:Nat→Hp→Prop}:hw P (Instr.sliceBound v y c) Q h=Q n h:=by
 subst hx;unfold sb at hs;split at hs
 ·rename_i he;cases he
 ·rename_i k i he;simp only[Option.some.injEq]at he;subst he;split at hs
  ·rename_i hc;simp only[Option.some.injEq]at hs;subst hs;unfold Instr.sliceBound;simp only[asIntOf,Zf,Zw,if_pos hc]
  ·cases hs
 ·cases hs
theorem RM {isS:Bool} {len cap b l:Nat} {lo hi:Option Value} (hb:sb hi len cap=some b) (hl:sb lo 0 b=some l) {Q:Nat × Nat × Nat→Hp→Prop} (H:Q (l,b,cap) h):hw P (Instr.sliceBounds isS len cap lo hi none) Q h:=by
 have h2:∀{c:BoundsCode},hw P (match lo with
   | some v=>do
    let l ←Instr.sliceBound v b c
    pure (l,b,cap)
   | none=>do
    let l ←pure 0
    pure (l,b,cap)) Q h:=by
  intro c
  cases lo with
  | none=>simp only[sb,Option.some.injEq]at hl;subst hl;exact H
  | some v=>
   simp only;rw[Zf,LY rfl hl];exact H
 unfold Instr.sliceBounds;rw[Zf];show hw P (pure cap) _ h;rw[Zw]
 cases hi with
 | none=>
  simp only[sb,Option.some.injEq]at hb;subst hb;exact h2
 | some v=>
  have XU:sb (some v) 0 cap=some b:=by unfold sb at hb ⊢;cases v<;>simp at hb ⊢<;>exact hb
  simp only;rw[Zf,LY rfl XU];exact h2
theorem EK {isS:Bool} {len cap m b l:Nat} {lo:Option Value} {hv mv:Value} (hm:sb (some mv) 0 cap=some m) (hb:sb (some hv) len m=some b) (hl:sb lo 0 b=some l) {Q:Nat × Nat × Nat→Hp→Prop} (H:Q (l,b,m) h):hw P (Instr.sliceBounds isS len cap lo (some hv) (some mv)) Q h:=by
 have XU:sb (some hv) 0 m=some b:=by unfold sb at hb ⊢;cases hv<;>simp at hb ⊢<;>exact hb
 unfold Instr.sliceBounds;rw[Zf];show hw P (Instr.sliceBound mv cap _) _ h;rw[LY rfl hm,Zf,LY rfl XU]
 cases lo with
 | none=>simp only[sb,Option.some.injEq]at hl;subst hl;exact H
 | some v=>
  show hw P (Instr.sliceBound v b _ >>= _) _ h;rw[Zf,LY rfl hl];exact H
theorem fV {t:TypeId} {x:Value} {lo hi mx:Option Operand} (H:IT (YF P t) (JD P t) (Ul P t) (tn P) x (dk F lo) (dk F hi) (dk F mx) K h):hw P (Instr.sliceAt t x (lo.map (ev F)) (hi.map (ev F)) (mx.map (ev F))) K h:=by
 have e:∀o,dk F o=o.map (ev F):=fun o=>by cases o<;>rfl
 rw[e,e,e]at H;generalize lo.map (ev F)=lo at *;generalize hi.map (ev F)=hi at *;generalize mx.map (ev F)=mx at *;unfold IT at H;split at H
 ·rename_i mv a len cap e ha hs;unfold JD at hs;split at hs
  ·rename_i e' hu;simp only[Option.some.injEq]at hs;subst hs;split at H
   ·rename_i hv m hm;unfold TO at H;split at H
    ·rename_i n b hn hb;split at H
     ·rename_i l hl;unfold Instr.sliceAt;rw[Zf,Zt hu];simp only;unfold Instr.slice;rw[Zf,Zt hu];simp only;rw[Zf];refine EK hm hb hl ?_;simp only[Zf,run_sizeOf hn,Zw];exact H
     ·exact H.elim
    ·exact H.elim
   ·exact H.elim
  ·cases hs
 ·rename_i a len cap e ha hs;unfold JD at hs;split at hs
  ·rename_i e' hu;simp only[Option.some.injEq]at hs;subst hs;unfold TO at H;split at H
   ·rename_i n b hn hb;split at H
    ·rename_i l hl;unfold Instr.sliceAt;rw[Zf,Zt hu];simp only;unfold Instr.slice;rw[Zf,Zt hu];simp only;rw[Zf];refine RM hb hl ?_;simp only[Zf,run_sizeOf hn,Zw];exact H
    ·exact H.elim
   ·exact H.elim
  ·cases hs
 ·rename_i a len e ha hs;unfold YF at ha;split at ha
  ·rename_i n' e' hu;simp only[Option.some.injEq,Prod.mk.injEq]at ha;obtain⟨rfl,rfl⟩:=ha;unfold TO at H;split at H
   ·rename_i n b hn hb;split at H
    ·rename_i l hl;unfold Instr.sliceAt;rw[Zf,Zt hu];simp only[Instr.sureAddr,Zf,Zw];refine RM hb hl ?_;simp only[Zf,run_sizeOf hn,Zw];have e3:(if n'=l then some a else (some a).map (·.add (l*n)))=some (if n'=l then a else a.add (l*n)):=by split<;>rfl
     rw[e3]at H;exact H
    ·exact H.elim
   ·exact H.elim
  ·cases ha
 ·rename_i s ha hs fW;unfold Ul at fW;split at fW
  ·rename_i hu;split at H
   ·rename_i b hb;split at H
    ·rename_i l hl;unfold Instr.sliceAt;rw[Zf,Zt hu];simp only;unfold Instr.slice;rw[Zf,Zt hu];simp only[Option.isSome_none,Bool.false_eq_true,if_false];rw[Zf];refine RM hb hl ?_;exact H
    ·exact H.elim
   ·exact H.elim
  ·cases fW
 ·exact H.elim
theorem l9 {t:TypeId} {l c:Value} (H:vMk (JD P t) (tn P) (tb P) (tz P) l c K h):hw P (Instr.makeSlice t l c) K h:=by
 unfold vMk at H;split at H
 ·rename_i e k l k' c he;unfold JD at he;split at he
  ·rename_i e' hu;simp only[Option.some.injEq]at he;subst he;unfold uh at H;split at H
   ·rename_i n bytes z hn SM hz;split at H
    ·rename_i hc;obtain⟨Bt,h0,hlc,Zwo,Yr⟩:=hc;obtain⟨i0,T3⟩:∃i,P.info? e'=some i:=by
      unfold tn at hn
      cases hi:P.info? e' with
      | none=>rw[hi]at hn;cases hn
      | some i=>exact⟨i,rfl⟩
     have RN:i0.bytes=bytes:=by unfold tb at SM;rw[T3]at SM;simpa using SM
     have w1:IntKind.i64.wrap l=l:=IntWalk.i64_in l ⟨by omega,by omega⟩;have w2:IntKind.i64.wrap c=c:=IntWalk.i64_in c ⟨by omega,by omega⟩;have ZaC:¬((bytes:Int)*c>2 ^ 48):=by omega
     unfold Instr.makeSlice;simp only[Zf,Zt hu,asInt,asIntOf,Zw,Xf T3,w1,w2,RN];have PQ:¬((decide (c<0)||decide ((bytes:Int)*c>2 ^ 48)||decide (l<0)||decide (l>c))=true):=by
      simp;omega
     rw[if_neg PQ];have RO:∀{Q:Unit→Hp→Prop} (b:Nat) (g:Hp),Q () g→hw P (askRoom b) Q g:=fun {Q} b g q=>by
      unfold askRoom;split<;>exact q
     rw[Zf];refine RO _ _ ?_;rw[Zf,run_sizeOf hn];have fin:∀z':Array Value,(Array.range (c.toNat*n)).map (fun j=>z'[j%z'.size]!)=(XZ c.toNat z).toArray→hw P (do
       let a ←newRow e' ((Array.range (c.toNat*n)).map (fun j=>z'[j%z'.size]!))
       pure (Value.slice (some a) l.toNat c.toNat)) K h:=by
      intro z' EJ;rw[EJ];exact H
     split
     ·rename_i h0;refine fin #[] ?_;have:(XZ c.toNat z).length=0:=by rw[T9,Bt,h0]
      rw[List.eq_nil_of_length_eq_zero this,h0];simp
     ·rename_i h0;obtain⟨v,hv,hr⟩:=Lp hz;rw[Zf,hr];refine fin v.cells ?_;have:z≠[]:=by intro e;subst e;simp at Bt;subst Bt;simp at h0
      rw[hv,←Bt];exact dn z this c.toNat
    ·exact H.elim
   ·exact H.elim
  ·cases he
 ·exact H.elim
theorem EL {op:Op} (H:WQ P T op ty K F h):IQ P T ⟨none,op,ty, "", #[],none⟩ K F h:=by
 have lift:∀{s:Sem Value},hw P s K h→hw P (do pure (Next.value (←s))) (Xx P T K) h:=fun {s} H=>by rw[Zf];exact H
 unfold WQ at H;split at H
 ·exact H
 ·exact H
 ·rename_i c a b;show hw P (do pure (.value (if ←asBool (ev F c) then ev F a else ev F b))) (Xx P T K) h;unfold HH at H;split at H
  ·rename_i t ht;rw[ht];cases t<;>exact H
  ·exact H.elim
 ·rename_i e;refine lift ?_;unfold lU tz at H;split at H
  ·rename_i l hl
   cases hi:P.info? e with
   | none=>rw[hi]at hl;cases hl
   | some i=>
    rw[hi]at hl
    cases hz:i.zero with
    | none=>rw[Option.bind_some,hz]at hl;cases hl
    | some z=>
     rw[Option.bind_some,hz]at hl;simp only[Option.map_some,Option.some.injEq]at hl;subst hl;simp only[Instr.alloc,zeroValue,Zf,Xf hi,hz,newVar,newRow,newObj,Zw,hw]
     simpa using H
  ·exact H.elim
 ·rename_i e x;refine lift ?_;simp only[lU,PK]at H;simp only[Instr.box,newVar,newRow,newObj,Zf,Zw];exact H
 ·exact lift (BP H)
 ·refine (?_:hw P (do Instr.storeAt _ _ _;pure Next.skip) (Xx P T K) h);rw[Zf];exact EF H
 ·exact lift (EG H)
 ·exact lift (lW H)
 ·rename_i x;unfold BK at H;split at H
  ·rename_i a hx;show hw P (match ev F x with|.pointer none|.nilIface|.nilFunc=>_|.func (.method name) first captured=>_|x=>_) _ h;rw[hx];exact H
  ·rename_i f a b hx;show hw P (match ev F x with|.pointer none|.nilIface|.nilFunc=>_|.func (.method name) first captured=>_|x=>_) _ h;rw[hx];exact H
  ·exact H.elim
 ·exact lift H
 ·exact lift H
 ·exact lift H
 ·exact lift (IU H)
 ·rename_i fn first captured;refine lift ?_;have e1:∀l:Array Operand,l.map (ev F)=(fQ F l.toList).toArray:=fun l=>by rw[GW,←Array.toList_map]
  show hw P (Instr.makeFunc fn (first.map (ev F)) (captured.map (ev F))) K h;rw[e1,e1];exact H
 ·rename_i f args ts;exact BR (x:=f) (c:=⟨.value f,args,ts⟩) rfl rfl (by rw[GW];simp) H
 ·rename_i b args ts;have e1:args.map (ev F)=(fQ F args.toList).toArray:=by rw[GW,←Array.toList_map]
  unfold T6 at H;rw[←e1]at H;exact H
 ·exact lift (EI H)
 ·exact lift (IV H)
 ·exact lift (fS H)
 ·exact lift (fU H)
 ·exact lift (fV H)
 ·exact lift (l9 H)
 ·exact H
theorem Ju {o:Oper} (H:WQ P T o.op o.type K F h):IQ P T o K F h:=EL H
def QY:List Oper→Env→Nat→Value
 | [],_,_=>undef
 | o :: _,F,0=>match o.dst with|some t=>F t|none=>undef
 | _ :: l,F,n+1=>QY l F n
def XF (v:Value) (b:Bool) (A B:Prop):Prop:=match v with|.bool c=>if c=b then A else B|_=>B
def PS (P:Program) (T:World) (ops:List Oper) (N:Env→Hp→Prop):List Oper→Env→Hp→Prop
 | [],F,h=>N F h
 | ⟨d,op,ty,_,_,none⟩ :: l,F,h=>WQ P T op ty (fun v h'=>PS P T ops N l (Z4 F d v) h') F h
 | ⟨d,op,ty,_,_,some (j,b)⟩ :: l,F,h=>XF (QY ops F j) b (WQ P T op ty (fun v h'=>PS P T ops N l (Z4 F d v) h') F h) (PS P T ops N l (Z4 F d undef) h)
theorem IX (ops:List Oper) (F:Env):∀j,Uj ops.toArray F j=match QY ops F j with|.bool b=>some b|_=>none:=by
 intro j;unfold Uj;rw[List.getElem?_toArray]
 induction ops generalizing j with
 | nil=>rfl
 | cons o l ih=>
  cases j with
  | zero=>simp only[List.getElem?_cons_zero,Option.bind_some,QY];cases o.dst<;>rfl
  | succ j=>simp only[List.getElem?_cons_succ,QY];exact ih j
theorem Y0 (ops:List Oper) (F:Env) (d:Option Tmp) (op:Op) (pos:String) (Uo:Array Edge) (j:Nat) (b:Bool) {A B:Prop} (H:XF (QY ops F j) b A B) :
  (Z7 ops.toArray ⟨d,op,ty,pos,Uo,some (j,b)⟩ F=true∧A)∨(Z7 ops.toArray ⟨d,op,ty,pos,Uo,some (j,b)⟩ F=false∧B):=by
 unfold Z7 Region.wanted;simp only[IX];unfold XF at H;split at H
 ·rename_i c hc;split at H
  ·rename_i IY;exact .inl ⟨by simp[IY],H⟩
  ·rename_i IY;exact .inr ⟨by simpa using IY,H⟩
 ·rename_i Yv;refine .inr ⟨?_,H⟩
  cases hv:QY ops F j<;>first|rfl|exact (Yv _ hv).elim
theorem Qg {op:Op} {K':Value→Hp→Prop} (hk:∀v h,K v h→K' v h) (H:WQ P T op ty K F h):IQ P T ⟨none,op,ty, "", #[],none⟩ K' F h:=PG hk (EL H)
theorem UR {ops:List Oper} {N:Env→Hp→Prop}:∀(l:List Oper) (F:Env) (h:Hp),PS P T ops N l F h→fM P T ops.toArray N l F h
 | [],F,h,H=>H
 | ⟨d,op,ty,pos,Uo,none⟩ :: l,F,h,H=>by
  show (if Z7 ops.toArray _ F=true then _ else _);rw[if_pos (by rfl)];exact Qg (fun v h' q=>UR l _ _ q) H
 | ⟨d,op,ty,pos,Uo,some (j,b)⟩ :: l,F,h,H=>by
  show (if Z7 ops.toArray _ F=true then _ else _);rcases Y0 ops F d op pos Uo j b H with⟨hw,H⟩|⟨hw,H⟩
  ·rw[if_pos hw];exact Qg (fun v h' q=>UR l _ _ q) H
  ·rw[hw,if_neg (by simp)];exact UR l _ _ H
def VL (P:Program) (T:World) (ops:List Oper) (S:Hp→Prop) (N:Env→Hp→Prop):List (Nat × Bool × Oper)→Env→Hp→Prop
 | [],F,h=>N F h
 | (_,true,⟨d,op,ty,_,_,none⟩) :: l,F,h=>∃v,(∀h',S h'→WQ P T op ty (fun v' O1=>v'=v∧O1=h') F h')∧VL P T ops S N l (Z4 F d v) h
 | (_,false,⟨d,op,ty,_,_,none⟩) :: l,F,h=>WQ P T op ty (fun v h'=>S h'∧VL P T ops S N l (Z4 F d v) h') F h
 | (_,true,⟨d,op,ty,_,_,some (j,b)⟩) :: l,F,h=>XF (QY ops F j) b (∃v,(∀h',S h'→WQ P T op ty (fun v' O1=>v'=v∧O1=h') F h')∧VL P T ops S N l (Z4 F d v) h) (VL P T ops S N l (Z4 F d undef) h)
 | (_,false,⟨d,op,ty,_,_,some (j,b)⟩) :: l,F,h=>XF (QY ops F j) b (WQ P T op ty (fun v h'=>S h'∧VL P T ops S N l (Z4 F d v) h') F h) (VL P T ops S N l (Z4 F d undef) h)
theorem XA {ops:List Oper} {S:Hp→Prop} {N:Env→Hp→Prop}:∀(l:List (Nat × Bool × Oper)) (F:Env) (h:Hp),VL P T ops S N l F h→PI P T ops.toArray S N l F h
 | [],F,h,H=>H
 | (i,true,⟨d,op,ty,pos,Uo,none⟩) :: l,F,h,H=>by
  show (if Z7 ops.toArray _ F=true then _ else _);rw[if_pos (by rfl)];obtain⟨v,hv,H⟩:=H;exact⟨v,fun h' hs=>Ju (hv h' hs),XA l _ _ H⟩
 | (i,false,⟨d,op,ty,pos,Uo,none⟩) :: l,F,h,H=>by
  show (if Z7 ops.toArray _ F=true then _ else _);rw[if_pos (by rfl)];exact Qg (fun v h' q=>⟨q.1,XA l _ _ q.2⟩) H
 | (i,true,⟨d,op,ty,pos,Uo,some (j,b)⟩) :: l,F,h,H=>by
  show (if Z7 ops.toArray _ F=true then _ else _);rcases Y0 ops F d op pos Uo j b H with⟨hw,H⟩|⟨hw,H⟩
  ·rw[if_pos hw];obtain⟨v,hv,H⟩:=H;exact⟨v,fun h' hs=>Ju (hv h' hs),XA l _ _ H⟩
  ·rw[hw,if_neg (by simp)];exact XA l _ _ H
 | (i,false,⟨d,op,ty,pos,Uo,some (j,b)⟩) :: l,F,h,H=>by
  show (if Z7 ops.toArray _ F=true then _ else _);rcases Y0 ops F d op pos Uo j b H with⟨hw,H⟩|⟨hw,H⟩
  ·rw[if_pos hw];exact Qg (fun v h' q=>⟨q.1,XA l _ _ q.2⟩) H
  ·rw[hw,if_neg (by simp)];exact XA l _ _ H
theorem VS.ZaD {n:Nat} {N:Env→Hp→Prop} {X:Nat→Env→Hp→Prop} {R:Env→Hp→Prop} {id:Nat} {ops:List Oper} (hm:P.follows .mixedOrders=true) (J8:VI n ops.toArray ((List.range ops.toArray.size).map fun i=>(i,true))=true)
  (H:VL P T ops (fun h'=>h'=h) N (ops.map fun o=>(0,true,o)) F h):VS P n T (.region id ops.toArray true) N X R F h:=by
 refine VS.quiet hm J8 ?_;have key:∀(l:List Oper) (k:Nat) (F:Env),(∀j,l[j]? = ops[k+j]?)→VL P T ops (fun h'=>h'=h) N (l.map fun o=>(0,true,o)) F h →
   VL P T ops (fun h'=>h'=h) N (UG ops.toArray ((List.range' k l.length).map fun i=>(i,true))) F h:=by
  intro l
  induction l with
  | nil=>intro k F _ H;exact H
  | cons o l ih=>
   intro k F hl H;have h0:ops[k]? = some o:=by simpa using (hl 0).symm
   have Bu:∀j,l[j]? = ops[k+1+j]?:=fun j=>by have:=hl (j+1);simpa [Nat.add_assoc,Nat.add_comm 1 j] using this
   have e:UG ops.toArray ((List.range' k (o :: l).length).map fun i=>(i,true))=(k,true,o) :: UG ops.toArray ((List.range' (k+1) l.length).map fun i=>(i,true)):=by
    simp[UG,List.range'_succ,h0]
   rw[e];obtain⟨d,op,ty,pos,Uo,g⟩:=o
   cases g with
   | none=>
    obtain⟨v,hv,H⟩:=H;exact⟨v,hv,ih (k+1) _ Bu H⟩
   | some jb=>
    obtain⟨j,b⟩:=jb;simp only[List.map_cons,VL]at H ⊢;unfold XF at *;split at H
    ·split at H
     ·rename_i IY;rw[if_pos IY];obtain⟨v,hv,H⟩:=H;exact⟨v,hv,ih (k+1) _ Bu H⟩
     ·rename_i IY;rw[if_neg IY];exact ih (k+1) _ Bu H
    ·exact ih (k+1) _ Bu H
 have:=key ops 0 F (fun j=>by simp) H;rw[List.range_eq_range'];exact XA _ _ _ this
def mf (v:Value) (A B:Prop):Prop:=match v with|.bool b=>if b=true then A else B|_=>False
def vc (P:Program) (n:Nat) (T:World):Code→(Env→Hp→Prop)→(Nat→Env→Hp→Prop)→(Env→Hp→Prop)→Env→Hp→Prop
 | .skip,N,_,_,F,h=>N F h
 | .ret,_,_,R,F,h=>R F h
 | .exit j,_,X,_,F,h=>X j F h
 | .seq a b,N,X,R,F,h=>vc P n T a (fun F h=>vc P n T b N X R F h) X R F h
 | .cond c a b,N,X,R,F,h=>mf (ev F c) (vc P n T a N X R F h) (vc P n T b N X R F h)
 | .block j c,N,X,R,F,h=>vc P n T c N (fun i F h=>if i=j then N F h else X i F h) R F h
 | .region _ ops false,N,_,_,F,h=>PS P T ops.toList N ops.toList F h
 | c,N,X,R,F,h=>VS P n T c N X R F h
def codeOk (n:Nat):Code→Bool
 | .seq a b=>codeOk n a&&codeOk n b
 | .cond _ a b=>codeOk n a&&codeOk n b
 | .block _ c=>codeOk n c
 | .region _ ops false=>NY n ops
 | _=>true
theorem Jl {n:Nat}:∀(c:Code) (N:Env→Hp→Prop) (X:Nat→Env→Hp→Prop) (R:Env→Hp→Prop) (F:Env) (h:Hp),codeOk n c=true→vc P n T c N X R F h→VS P n T c N X R F h:=by
 intro c
 induction c with
 | skip=>intro N X R F h _ H;exact VS.skip H
 | ret=>intro N X R F h _ H;exact VS.ret H
 | exit j=>intro N X R F h _ H;exact VS.exit H
 | seq a b iha ihb=>
  intro N X R F h J8 H;simp only[codeOk,Bool.and_eq_true]at J8;exact VS.seq (VS.mono (iha _ _ _ _ _ J8.1 H) (fun F h q=>ihb _ _ _ _ _ J8.2 q) (fun _ _ _ q=>q) (fun _ _ q=>q))
 | cond c a b iha ihb=>
  intro N X R F h J8 H;simp only[codeOk,Bool.and_eq_true]at J8;simp only[vc,mf]at H;split at H
  ·rename_i t ht;refine VS.cond ht (fun hb=>?_) (fun hb=>?_)
   ·rw[if_pos hb]at H;exact iha _ _ _ _ _ J8.1 H
   ·rw[if_neg (by simp[hb])]at H;exact ihb _ _ _ _ _ J8.2 H
  ·exact H.elim
 | block j c ih=>intro N X R F h J8 H;exact VS.block (ih _ _ _ _ _ J8 H)
 | region id ops draw=>
  intro N X R F h J8 H
  cases draw with
  | true=>exact H
  | false=>exact VS.region J8 (by simpa using UR _ _ _ H)
 | _=>intro N X R F h _ H;exact H
theorem Zc.uk {f:FuncId} {fn:Func} {c:Code} {l:List ResultVar} {args:List Value} {Q:Value→Hp→Prop} (hf:P.funcs[f]? = some fn) (hb:fn.body=some c)
  (hl:fn.results=l.toArray) (hn:Nat.ble args.length fn.ntmps=true) (J8:codeOk fn.ntmps c=true)
  (H:vc P fn.ntmps T c (fun F h'=>LQ P l F Q h') (fun _ _ _=>False) (fun F h'=>LQ P l F Q h') (IP args 0) h) :
  Zc P T f args.toArray h Q:=
 Zc.Lk hf hb hl (by simpa using hn) (by simpa using Jl _ _ _ _ _ _ J8 H)
end
section
variable {P:Program} {T:World} {K:Value→Hp→Prop} {F:Env} {h:Hp} {ty:TypeId}
def um (P:Program) (T:World) (ops:List Oper) (N:Env→Hp→Prop) (l:List Oper) (F:Env) (d:Option Tmp):Value→Hp→Prop:=fun v h=>PS P T ops N l (Z4 F d v) h
theorem mg {ops l:List Oper} {N:Env→Hp→Prop} {d:Option Tmp} {v:Value}:um P T ops N l F d v h=PS P T ops N l (Z4 F d v) h:=rfl
theorem mh {ops:List Oper} {N:Env→Hp→Prop}:PS P T ops N [] F h=N F h:=rfl
theorem BS {ops l:List Oper} {N:Env→Hp→Prop} {d:Option Tmp} {op:Op} {pos:String} {Uo:Array Edge} :
  PS P T ops N (⟨d,op,ty,pos,Uo,none⟩ :: l) F h=WQ P T op ty (um P T ops N l F d) F h:=rfl
def BT (P:Program) (T:World) (ops:List Oper) (N:Env→Hp→Prop) (l:List Oper) (F:Env) (d:Option Tmp) (op:Op) (ty:TypeId) (v:Value) (b:Bool) (h:Hp):Prop:=
 XF v b (WQ P T op ty (um P T ops N l F d) F h) (PS P T ops N l (Z4 F d undef) h)
theorem BU {ops l:List Oper} {N:Env→Hp→Prop} {d:Option Tmp} {op:Op} {pos:String} {Uo:Array Edge} {j:Nat} {b:Bool} :
  PS P T ops N (⟨d,op,ty,pos,Uo,some (j,b)⟩ :: l) F h=BT P T ops N l F d op ty (QY ops F j) b h:=rfl
theorem EM {ops l:List Oper} {N:Env→Hp→Prop} {d:Option Tmp} {op:Op} {b c:Bool} :
  BT P T ops N l F d op ty (.bool c) b h=if c=b then WQ P T op ty (um P T ops N l F d) F h else PS P T ops N l (Z4 F d undef) h:=rfl
def Zef (P:Program) (n:Nat) (T:World) (b:Code) (N:Env→Hp→Prop) (X:Nat→Env→Hp→Prop) (R:Env→Hp→Prop):Env→Hp→Prop:=fun F h=>vc P n T b N X R F h
def Zeg (j:Nat) (N:Env→Hp→Prop) (X:Nat→Env→Hp→Prop):Nat→Env→Hp→Prop:=fun i F h=>if i=j then N F h else X i F h
def mi:Nat→Env→Hp→Prop:=fun _ _ _=>False
def uo (P:Program) (l:List ResultVar) (Q:Value→Hp→Prop):Env→Hp→Prop:=fun F h=>LQ P l F Q h
def ze (P:Program) (n:Nat) (T:World) (v:Value) (a b:Code) (N:Env→Hp→Prop) (X:Nat→Env→Hp→Prop) (R:Env→Hp→Prop) (F:Env) (h:Hp):Prop:=
 mf v (vc P n T a N X R F h) (vc P n T b N X R F h)
section
variable {n:Nat} {N:Env→Hp→Prop} {X:Nat→Env→Hp→Prop} {R:Env→Hp→Prop}
theorem mj {b:Code}:Zef P n T b N X R F h=vc P n T b N X R F h:=rfl
theorem mm {i j:Nat}:Zeg j N X i F h=if i=j then N F h else X i F h:=rfl
theorem fX {i:Nat}:mi i F h=False:=rfl
theorem mo {l:List ResultVar} {Q:Value→Hp→Prop}:uo P l Q F h=LQ P l F Q h:=rfl
theorem uq:vc P n T .skip N X R F h=N F h:=rfl
theorem ZaE:vc P n T .ret N X R F h=R F h:=rfl
theorem ur {j:Nat}:vc P n T (.exit j) N X R F h=X j F h:=rfl
theorem ZaF {a b:Code}:vc P n T (.seq a b) N X R F h=vc P n T a (Zef P n T b N X R) X R F h:=rfl
theorem uw {c:Operand} {a b:Code}:vc P n T (.cond c a b) N X R F h=ze P n T (ev F c) a b N X R F h:=rfl
theorem mq {j:Nat} {c:Code}:vc P n T (.block j c) N X R F h=vc P n T c N (Zeg j N X) R F h:=rfl
theorem fY {id:Nat} {l:List Oper}:vc P n T (.region id l.toArray false) N X R F h=PS P T l N l F h:=rfl
theorem uy {id:Nat} {l:Array Oper}:vc P n T (.region id l true) N X R F h=VS P n T (.region id l true) N X R F h:=rfl
theorem uz {c:Code}:vc P n T (.loop c) N X R F h=VS P n T (.loop c) N X R F h:=rfl
theorem BV {a b:Code} {t:Bool}:ze P n T (.bool t) a b N X R F h=if t=true then vc P n T a N X R F h else vc P n T b N X R F h:=rfl
end
theorem Zc.Zj {f:FuncId} {fn:Func} {c:Code} {l:List ResultVar} {args:List Value} {Q:Value→Hp→Prop} (hf:P.funcs[f]? = some fn) (hb:fn.body=some c)
  (hl:fn.results=l.toArray) (hn:Nat.ble args.length fn.ntmps=true) (J8:codeOk fn.ntmps c=true)
  (H:vc P fn.ntmps T c (uo P l Q) mi (uo P l Q) (IP args 0) h):Zc P T f args.toArray h Q:=Zc.uk hf hb hl hn J8 H
def Xp (I:Env→Hp→Prop) (μ:Env→Hp→Nat) (m:Nat):Env→Hp→Prop:=fun F h=>I F h∧μ F h<m
theorem VS.ZW {n:Nat} {N:Env→Hp→Prop} {X:Nat→Env→Hp→Prop} {R:Env→Hp→Prop} {c:Code} (I:Env→Hp→Prop) (μ:Env→Hp→Nat) (J8:codeOk n c=true) (h0:I F h)
  (round:∀F h,I F h→vc P n T c (Xp I μ (μ F h)) X R F h):VS P n T (.loop c) N X R F h:=
 VS.loop I μ h0 fun F h hI=>Jl _ _ _ _ _ _ J8 (round F h hI)
theorem Zc.use {f:FuncId} {args:Array Value} {Q:Value→Hp→Prop} (c:Zc P T f args h Q) (H:∀v h',Q v h'→K v h'):Zc P T f args h K:=c.mono H
theorem Zc.pure {f:FuncId} {args:Array Value} {r:Value} (c:Zc P T f args h fun v h'=>v=r∧h'=h) (H:K r h):Zc P T f args h K:=
 c.mono fun _ _ ⟨e1,e2⟩=>by subst e1;subst e2;exact H
def ap (B:Value→Prop) (v:Value):Prop:=B v
def T7 (v:Value) (h:Hp):Value→Hp→Prop:=fun v' h'=>v'=v∧h'=h
def O3 (P:Program) (T:World) (ops:List Oper) (N:Env→Hp→Prop):List Oper→Env→Hp→Prop
 | [],F,h=>N F h
 | ⟨d,op,ty,_,_,none⟩ :: l,F,h=>∃v,WQ P T op ty (T7 v h) F h∧O3 P T ops N l (Z4 F d v) h
 | ⟨d,op,ty,_,_,some (j,b)⟩ :: l,F,h=>XF (QY ops F j) b (∃v,WQ P T op ty (T7 v h) F h∧O3 P T ops N l (Z4 F d v) h) (O3 P T ops N l (Z4 F d undef) h)
theorem Qh {ops:List Oper} {N:Env→Hp→Prop}:∀(l:List Oper) (F:Env),O3 P T ops N l F h→VL P T ops (fun h'=>h'=h) N (l.map fun o=>(0,true,o)) F h
 | [],_,H=>H
 | ⟨d,op,ty,pos,Uo,none⟩ :: l,F,H=>by
  obtain⟨v,hv,H⟩:=H;exact⟨v,fun h' e=>by subst e;exact hv,Qh l _ H⟩
 | ⟨d,op,ty,pos,Uo,some (j,b)⟩ :: l,F,H=>by
  simp only[O3,XF]at H;simp only[List.map_cons,VL,XF];split at H
  ·split at H
   ·rename_i IY;rw[if_pos IY];obtain⟨v,hv,H⟩:=H;exact⟨v,fun h' e=>by subst e;exact hv,Qh l _ H⟩
   ·rename_i IY;rw[if_neg IY];exact Qh l _ H
  ·exact Qh l _ H
theorem VS.q {n:Nat} {N:Env→Hp→Prop} {X:Nat→Env→Hp→Prop} {R:Env→Hp→Prop} {id:Nat} {ops:List Oper} (hm:P.follows .mixedOrders=true) (J8:VI n ops.toArray ((List.range ops.toArray.size).map fun i=>(i,true))=true)
  (H:O3 P T ops N ops F h):VS P n T (.region id ops.toArray true) N X R F h:=VS.ZaD hm J8 (Qh _ _ H)
def qK (P:Program) (T:World) (ops:List Oper) (N:Env→Hp→Prop) (l:List Oper) (F:Env) (d:Option Tmp) (h:Hp):Value→Prop:=fun v=>O3 P T ops N l (Z4 F d v) h
def GX (P:Program) (T:World) (op:Op) (ty:TypeId) (B:Value→Prop) (F:Env) (h:Hp):Prop:=∃v,WQ P T op ty (T7 v h) F h∧ap B v
def mw (P:Program) (T:World) (ops:List Oper) (N:Env→Hp→Prop) (l:List Oper) (F:Env) (d:Option Tmp) (op:Op) (ty:TypeId) (v:Value) (b:Bool) (h:Hp):Prop:=
 XF v b (GX P T op ty (qK P T ops N l F d h) F h) (O3 P T ops N l (Z4 F d undef) h)
theorem my {ops:List Oper} {N:Env→Hp→Prop}:O3 P T ops N [] F h=N F h:=rfl
theorem BW {ops l:List Oper} {N:Env→Hp→Prop} {d:Option Tmp} {op:Op} {pos:String} {Uo:Array Edge} :
  O3 P T ops N (⟨d,op,ty,pos,Uo,none⟩ :: l) F h=GX P T op ty (qK P T ops N l F d h) F h:=rfl
theorem BX {ops l:List Oper} {N:Env→Hp→Prop} {d:Option Tmp} {op:Op} {pos:String} {Uo:Array Edge} {j:Nat} {b:Bool} :
  O3 P T ops N (⟨d,op,ty,pos,Uo,some (j,b)⟩ :: l) F h=mw P T ops N l F d op ty (QY ops F j) b h:=rfl
theorem EN {ops l:List Oper} {N:Env→Hp→Prop} {d:Option Tmp} {op:Op} {b c:Bool} :
  mw P T ops N l F d op ty (.bool c) b h=if c=b then GX P T op ty (qK P T ops N l F d h) F h else O3 P T ops N l (Z4 F d undef) h:=rfl
theorem ZaG {ops l:List Oper} {N:Env→Hp→Prop} {d:Option Tmp} {v:Value}:qK P T ops N l F d h v=O3 P T ops N l (Z4 F d v) h:=rfl
def qR (x:Option Value) (B:Value→Prop):Prop:=match x with|some v=>ap B v|none=>False
theorem uA {v:Value} {B:Value→Prop}:qR (some v) B=B v:=rfl
theorem kL {v:Value} {B:Value→Prop}:(∃u,T7 u h v h∧ap B u)=B v:=by
 apply propext;constructor
 ·rintro⟨u,⟨e,_⟩,H⟩;subst e;exact H
 ·intro H;exact⟨v,⟨rfl,rfl⟩,H⟩
section
variable {B:Value→Prop}
theorem mz {x:Operand}:GX P T (.move x) ty B F h=B (ev F x):=kL
theorem BY {x:Operand}:GX P T (.assign x) ty B F h=B (ev F x):=kL
def mA (c a b:Value) (B:Value→Prop):Prop:=match c with|.bool t=>B (if t then a else b)|_=>False
theorem BZ {t:Bool} {a b:Value}:mA (.bool t) a b B=B (if t=true then a else b):=rfl
theorem mB {c a b:Operand}:GX P T (.pick c a b) ty B F h=mA (ev F c) (ev F a) (ev F b) B:=by
 show (∃u,HH _ _ _ (T7 u h) h∧ap B u)=_;unfold HH mA
 cases ev F c<;>first|exact kL|simp
def dp (s:Option Bool) (n:Option Nat) (p:Value) (B:Value→Prop) (h:Hp):Prop:=
 match p with
 | .pointer (some a)=>match s,n with
  | some false,_=>qR (hc h a) B
  | some true,some n=>qR ((rd h a n).map fun l=>.agg l.toArray) B
  | _,_=>False
 | _=>False
theorem fZ {n:Option Nat} {a:Addr}:dp (some false) n (.pointer (some a)) B h=qR (hc h a) B:=rfl
theorem Aa {n:Nat} {a:Addr}:dp (some true) (some n) (.pointer (some a)) B h=qR ((rd h a n).map fun l=>.agg l.toArray) B:=rfl
theorem mC {t:TypeId} {x:Operand}:GX P T (.load t x) ty B F h=dp (ta P t) (tn P t) (ev F x) B h:=by
 show (∃u,PM _ _ _ (T7 u h) h∧ap B u)=_;unfold PM dp
 cases ev F x with
 | pointer a=>
  cases a with
  | none=>simp
  | some a=>
   simp only;rcases ta P t with _|b
   ·simp
   ·cases b
    ·simp only[MU,qR]
     cases hc h a with
     | none=>simp
     | some v=>exact kL
    ·rcases tn P t with _|n
     ·simp
     ·simp only[LS,qR]
      cases rd h a n with
      | none=>simp
      | some v=>exact kL
 | _=>simp
def Ab (f:Option Nat) (p:Value) (B:Value→Prop):Prop:=match f,p with|some o,.pointer (some a)=>B (.pointer (some (a.add o)))|_,_=>False
theorem EO {o b f:Nat}:Ab (some o) (.pointer (some ⟨b,f,none⟩)) B=B (.pointer (some ⟨b,f+o,none⟩)):=by
 show B (.pointer (some (Addr.add _ _)))=_;rw[Y1]
theorem ga {t:TypeId} {x:Operand} {i:Nat}:GX P T (.fieldAddr t x i) ty B F h=Ab (tf P t i) (ev F x) B:=by
 show (∃u,RK _ _ (T7 u h) h∧ap B u)=_;unfold RK Ab;rcases tf P t i with _|o
 ·simp
 ·cases ev F x with
  | pointer a=>cases a with
   | none=>simp
   | some a=>exact kL
  | _=>simp
def qIx (arr:Option (Nat × TypeId)) (sl:Option TypeId) (n:TypeId→Option Nat) (p i:Value) (B:Value→Prop):Prop:=
 match i with
 | .int _ i=>(match arr,sl,p with
  | some (len,e),none,.pointer (some a)=>(match n e with
   | some n=>if 0≤i∧i<(len:Int) then B (.pointer (some (a.add (i.toNat*n)))) else False
   | none=>False)
  | none,some e,.slice (some a) len _=>(match n e with
   | some n=>if 0≤i∧i<(len:Int) then B (.pointer (some (a.add (i.toNat*n)))) else False
   | none=>False)
  | _,_,_=>False)
 | _=>False
def uB (m:Option Nat) (len:Nat) (a:Addr) (i:Int) (B:Value→Prop):Prop:=
 match m with|some m=>if 0≤i∧i<(len:Int) then B (.pointer (some (a.add (i.toNat*m)))) else False|none=>False
theorem uC {len:Nat} {e:TypeId} {n:TypeId→Option Nat} {a:Addr} {k:IntKind} {i:Int}:qIx (some (len,e)) none n (.pointer (some a)) (.int k i) B=uB (n e) len a i B:=rfl
theorem gd {len cap:Nat} {e:TypeId} {n:TypeId→Option Nat} {a:Addr} {k:IntKind} {i:Int}:qIx none (some e) n (.slice (some a) len cap) (.int k i) B=uB (n e) len a i B:=rfl
theorem gg {m len b f:Nat} {i:Int}:uB (some m) len ⟨b,f,none⟩ i B=if 0≤i∧i<(len:Int) then B (.pointer (some ⟨b,f+i.toNat*m,none⟩)) else False:=by
 simp only[uB,Y1]
theorem RP {c:Prop} [Decidable c] {A:Value→Prop}:(∃u,(if c then A u else False)∧ap B u)=if c then (∃u,A u∧ap B u) else False:=by
 split<;>simp
theorem ZaH {t:TypeId} {x i:Operand}:GX P T (.indexAddr t x i) ty B F h=qIx (YF P t) (JD P t) (tn P) (ev F x) (ev F i) B:=by
 show (∃u,zc _ _ _ _ _ (T7 u h) h∧ap B u)=_;unfold zc qIx
 cases ev F i with
 | int k i=>
  simp only;rcases YF P t with _|⟨len,e⟩
  ·rcases JD P t with _|e
   ·simp
   ·cases ev F x with
    | slice a len cap=>
     cases a with
     | none=>simp
     | some a=>
      simp only;rcases tn P e with _|n
      ·simp
      ·simp only;rw[RP,kL]
    | _=>simp
  ·rcases JD P t with _|e'
   ·cases ev F x with
    | pointer a=>
     cases a with
     | none=>simp
     | some a=>
      simp only;rcases tn P e with _|n
      ·simp
      ·simp only;rw[RP,kL]
    | _=>simp
   ·simp
 | _=>simp
def PT (v:Value) (i:Nat) (B:Value→Prop):Prop:=match v with|.tuple vs=>qR (vs[i]?) B|_=>False
theorem LZ {l:List Value} {i:Nat}:PT (.tuple l.toArray) i B=qR (nth l i) B:=by simp[PT,Yj]
theorem EP {x:Operand} {i:Nat}:GX P T (.extract x i) ty B F h=PT (ev F x) i B:=by
 show (∃u,Um _ _ (T7 u h) h∧ap B u)=_;unfold Um PT
 cases ev F x with
 | tuple vs=>
  simp only[MU,qR]
  cases vs[i]? with
  | none=>simp
  | some v=>exact kL
 | _=>simp
def ZaI (v:Value) (B:Value→Prop):Prop:=match v with|.pointer (some a)=>B (.pointer (some a))|.func (.func f) x y=>B (.func (.func f) x y)|_=>False
theorem GY {a:Addr}:ZaI (.pointer (some a)) B=B (.pointer (some a)):=rfl
theorem uD {x:Operand}:GX P T (.nilCheck x) ty B F h=ZaI (ev F x) B:=by
 show (∃u,BK _ (T7 u h) h∧ap B u)=_;unfold BK ZaI
 cases ev F x with
 | pointer a=>cases a with
  | none=>simp
  | some a=>exact kL
 | func f a b=>cases f with
  | func f=>exact kL
  | _=>simp
 | _=>simp
theorem uE {op:BinOp} {t t':TypeId} {x y:Operand}:GX P T (.binOp op t x y t') ty B F h = ∃u,Y6 P op t x y (ev F x) (ev F y) (T7 u h) h∧ap B u:=rfl
theorem ZaJ {op:UnOp} {t:TypeId} {x:Operand}:GX P T (.unOp op t x) ty B F h = ∃u,vUn P op (ev F x) (T7 u h) h∧ap B u:=rfl
theorem mD {s d:TypeId} {x:Operand}:GX P T (.convert s d x) ty B F h = ∃u,VJ P s d (ev F x) (T7 u h) h∧ap B u:=rfl
theorem ZaK {b:Builtin} {args:Array Operand} {ts:Array TypeId}:GX P T (.call ⟨.builtin b,args,ts⟩) ty B F h =
  ∃u,T6 P T b ts ty (args.map fun|.const _=>true|_=>false) (fQ F args.toList) (T7 u h) h∧ap B u:=rfl
end
theorem ZaL {t:Nat}:ev F (.tmp t)=F t:=rfl
theorem mE {v:Value}:ev F (.const v)=v:=rfl
theorem gh {g:Nat}:ev F (.global g)=.pointer (some ⟨g,0,none⟩):=rfl
theorem uF {g:Nat}:ev F (.func g)=.func (.func g) #[] #[]:=rfl
theorem Zm {d:Nat} {v:Value} {t:Nat}:Z4 F (some d) v t=if t=d then v else F t:=rfl
theorem gj {v:Value}:Z4 F none v=F:=rfl
theorem uG {d:Nat} {v:Value} {t:Nat}:upd F d v t=if t=d then v else F t:=rfl
theorem Ad {t:Bool} {a b:Value}:HH (.bool t) a b K h=K (if t=true then a else b) h:=rfl
theorem gk {l:List Value} {t:TypeId}:lU (some l) t K h=K (.pointer (some ⟨h.size,0,none⟩)) (h.push (.cells l.toArray t)):=rfl
theorem gm {v:Value}:MU (some v) K h=K v h:=rfl
theorem gn {l:List Value}:LS (some l) K h=K (.agg l.toArray) h:=rfl
theorem HK {n:Option Nat} {a:Addr}:PM (some false) n (.pointer (some a)) K h=MU (hc h a) K h:=rfl
theorem L0 {n:Nat} {a:Addr}:PM (some true) (some n) (.pointer (some a)) K h=LS (rd h a n) K h:=rfl
theorem mF {h':Hp}:dh (some h') K=K undef h':=rfl
theorem Af {n:Nat} {a:Addr} {k:IntKind} {i:Int}:UH (some n) (.pointer (some a)) (.int k i) K h=if n=1 then dh (JK h a (.int k i)) K else False:=rfl
theorem ER {n:Nat} {a:Addr} {b:Bool}:UH (some n) (.pointer (some a)) (.bool b) K h=if n=1 then dh (JK h a (.bool b)) K else False:=rfl
theorem GZ {n:Nat} {a:Addr} {p:Option Addr} {l c:Nat}:UH (some n) (.pointer (some a)) (.slice p l c) K h=if n=1 then dh (JK h a (.slice p l c)) K else False:=rfl
theorem IZ {n:Nat} {a:Addr} {s:ByteArray}:UH (some n) (.pointer (some a)) (.string s) K h=if n=1 then dh (JK h a (.string s)) K else False:=rfl
theorem L1 {n:Nat} {a:Addr} {p:Option Addr}:UH (some n) (.pointer (some a)) (.pointer p) K h=if n=1 then dh (JK h a (.pointer p)) K else False:=rfl
theorem Ag {n:Nat} {a:Addr} {p:Option Nat}:UH (some n) (.pointer (some a)) (.map p) K h=if n=1 then dh (JK h a (.map p)) K else False:=rfl
theorem ES {n:Nat} {a:Addr} {f:Fn} {x y:Array Value}:UH (some n) (.pointer (some a)) (.func f x y) K h=if n=1 then dh (JK h a (.func f x y)) K else False:=rfl
theorem L4 {n:Nat} {a:Addr}:UH (some n) (.pointer (some a)) .nilFunc K h=if n=1 then dh (JK h a .nilFunc) K else False:=rfl
theorem Ah {n:Nat} {a:Addr} {l:List Value}:UH (some n) (.pointer (some a)) (.agg l.toArray) K h=if n=l.length then dh (wr h a l) K else False:=rfl
theorem ET {o b f:Nat}:RK (some o) (.pointer (some ⟨b,f,none⟩)) K h=K (.pointer (some ⟨b,f+o,none⟩)) h:=by
 show K (.pointer (some (Addr.add _ _))) h=_;rw[Y1]
def uH (m:Option Nat) (len:Nat) (a:Addr) (i:Int) (K:Value→Hp→Prop) (h:Hp):Prop:=
 match m with|some m=>if 0≤i∧i<(len:Int) then K (.pointer (some (a.add (i.toNat*m)))) h else False|none=>False
theorem uI {len:Nat} {e:TypeId} {n:TypeId→Option Nat} {a:Addr} {k:IntKind} {i:Int} :
  zc (some (len,e)) none n (.pointer (some a)) (.int k i) K h=uH (n e) len a i K h:=rfl
theorem gq {len cap:Nat} {e:TypeId} {n:TypeId→Option Nat} {a:Addr} {k:IntKind} {i:Int} :
  zc none (some e) n (.slice (some a) len cap) (.int k i) K h=uH (n e) len a i K h:=rfl
theorem gu {m len b f:Nat} {i:Int}:uH (some m) len ⟨b,f,none⟩ i K h=if 0≤i∧i<(len:Int) then K (.pointer (some ⟨b,f+i.toNat*m,none⟩)) h else False:=by
 simp only[uH,Y1]
theorem L5 {l:List Value} {i:Nat}:Um (.tuple l.toArray) i K h=MU (nth l i) K h:=by simp[Um,Yj]
theorem G0 {a:Addr}:BK (.pointer (some a)) K h=K (.pointer (some a)) h:=rfl
theorem gv {f:FuncId} {x y:Array Value}:BK (.func (.func f) x y) K h=K (.func (.func f) x y) h:=rfl
theorem Ai {f:FuncId} {l:List Value} (hg:goes P f=true):LU P T (.func (.func f) #[] #[]) l K h=Zc P T f l.toArray h K:=by
 simp only[LU,hg,↓reduceIte];simp
theorem mG {t:TypeId} {x y:Operand} {k:IntKind} {a b:Int}:Y6 P .add t x y (.int k a) (.int k b) K h=K (.int k (k.wrap (a+b))) h:=by
 simp[Y6,binOp,Op.intArith,Zw,eqGuard]
theorem mH {t:TypeId} {x y:Operand} {k:IntKind} {a b:Int}:Y6 P .sub t x y (.int k a) (.int k b) K h=K (.int k (k.wrap (a-b))) h:=by
 simp[Y6,binOp,Op.intArith,Zw,eqGuard]
theorem mI {t:TypeId} {x y:Operand} {k:IntKind} {a b:Int}:Y6 P .mul t x y (.int k a) (.int k b) K h=K (.int k (k.wrap (a*b))) h:=by
 simp[Y6,binOp,Op.intArith,Zw,eqGuard]
theorem mJ {t:TypeId} {x y:Operand} {k:IntKind} {a b:Int}:Y6 P .quo t x y (.int k a) (.int k b) K h=if b=0 then False else K (.int k (k.wrap (a.tdiv b))) h:=by
 simp only[Y6,binOp,Op.intDiv,Zf,eqGuard];by_cases hb:b=0
 ·subst hb;simp[runtimePanic,goPanic,Zf,hw,Zw,program]
 ·simp[hb,Zw]
theorem mK {t:TypeId} {x y:Operand} {k:IntKind} {a b:Int}:Y6 P .rem t x y (.int k a) (.int k b) K h=if b=0 then False else K (.int k (a.tmod b)) h:=by
 simp only[Y6,binOp,Op.intDiv,Zf,eqGuard];by_cases hb:b=0
 ·subst hb;simp[runtimePanic,goPanic,Zf,hw,Zw,program]
 ·simp[hb,Zw]
def Yb (op:BinOp) (k:IntKind) (a b:Int):Int:=
 let x:=BitVec.ofInt k.bits a
 let y:=BitVec.ofInt k.bits b
 k.wrap (match op with|.and=>x &&& y|.or=>x ||| y|.xor=>x ^^^ y|_=>x &&& ~~~y).toNat
theorem mL {t:TypeId} {x y:Operand} {k:IntKind} {a b:Int}:Y6 P .and t x y (.int k a) (.int k b) K h=K (.int k (Yb .and k a b)) h:=by
 simp[Y6,binOp,Op.intBits,Zw,eqGuard,Yb]
theorem uJ {t:TypeId} {x y:Operand} {k:IntKind} {a b:Int}:Y6 P .or t x y (.int k a) (.int k b) K h=K (.int k (Yb .or k a b)) h:=by
 simp[Y6,binOp,Op.intBits,Zw,eqGuard,Yb]
theorem mM {t:TypeId} {x y:Operand} {k:IntKind} {a b:Int}:Y6 P .xor t x y (.int k a) (.int k b) K h=K (.int k (Yb .xor k a b)) h:=by
 simp[Y6,binOp,Op.intBits,Zw,eqGuard,Yb]
theorem EU {t:TypeId} {x y:Operand} {k:IntKind} {a b:Int}:Y6 P .andNot t x y (.int k a) (.int k b) K h=K (.int k (Yb .andNot k a b)) h:=by
 simp[Y6,binOp,Op.intBits,Zw,eqGuard,Yb]
def YI (k:IntKind) (a b:Int):Int:=k.wrap (a*2 ^ min b.toNat k.bits)
def YT (k:IntKind) (a b:Int):Int:=a.fdiv (2 ^ min b.toNat k.bits)
theorem mN {t:TypeId} {x y:Operand} {k k':IntKind} {a b:Int}:Y6 P .shl t x y (.int k a) (.int k' b) K h=if b<0 then False else K (.int k (YI k a b)) h:=by
 simp only[Y6,binOp,Op.shift,Zf,eqGuard];by_cases hb:b<0
 ·simp[hb,runtimePanic,goPanic,Zf,hw,Zw,program]
 ·simp[hb,Zw,YI]
theorem mO {t:TypeId} {x y:Operand} {k k':IntKind} {a b:Int}:Y6 P .shr t x y (.int k a) (.int k' b) K h=if b<0 then False else K (.int k (YT k a b)) h:=by
 simp only[Y6,binOp,Op.shift,Zf,eqGuard];by_cases hb:b<0
 ·simp[hb,runtimePanic,goPanic,Zf,hw,Zw,program]
 ·simp[hb,Zw,YT]
theorem mP {t:TypeId} {x y:Operand} {k:IntKind} {a b:Int}:Y6 P .eql t x y (.int k a) (.int k b) K h=K (.bool (decide (a=b))) h:=by
 simp[Y6,binOp,Op.intCmp,Zw,eqGuard];rfl
theorem mQ {t:TypeId} {x y:Operand} {k:IntKind} {a b:Int}:Y6 P .neq t x y (.int k a) (.int k b) K h=K (.bool (decide (a≠b))) h:=by
 simp[Y6,binOp,Op.intCmp,Zw,eqGuard];have:(a != b) = !decide (a=b):=by rfl
 rw[this]
theorem mR {t:TypeId} {x y:Operand} {k:IntKind} {a b:Int}:Y6 P .lss t x y (.int k a) (.int k b) K h=K (.bool (decide (a<b))) h:=by
 simp[Y6,binOp,Op.intCmp,Zw,eqGuard]
theorem mS {t:TypeId} {x y:Operand} {k:IntKind} {a b:Int}:Y6 P .leq t x y (.int k a) (.int k b) K h=K (.bool (decide (a≤b))) h:=by
 simp[Y6,binOp,Op.intCmp,Zw,eqGuard]
theorem mT {t:TypeId} {x y:Operand} {k:IntKind} {a b:Int}:Y6 P .gtr t x y (.int k a) (.int k b) K h=K (.bool (decide (b<a))) h:=by
 simp[Y6,binOp,Op.intCmp,Zw,eqGuard]
theorem mU {t:TypeId} {x y:Operand} {k:IntKind} {a b:Int}:Y6 P .geq t x y (.int k a) (.int k b) K h=K (.bool (decide (b≤a))) h:=by
 simp[Y6,binOp,Op.intCmp,Zw,eqGuard]
theorem uK {b:Bool}:vUn P .not (.bool b) K h=K (.bool (!b)) h:=rfl
theorem uL {k:IntKind} {a:Int}:vUn P .neg (.int k a) K h=K (.int k (k.wrap (0-a))) h:=rfl
theorem uM {k:IntKind} {a:Int}:vUn P .xor (.int k a) K h=K (.int k (Yb .xor k (if k.signed then -1 else k.max) a)) h:=rfl
def mV (d:Option IntKind) (a:Int) (K:Value→Hp→Prop) (h:Hp):Prop:=match d with|some k=>K (.int k (k.wrap a)) h|none=>False
theorem EV {k:IntKind} {a:Int}:mV (some k) a K h=K (.int k (k.wrap a)) h:=rfl
theorem gx {s d:TypeId} {j:IntKind} {a:Int} (hs:(IS P s).isSome=true) (hd:(IS P d).isSome=true):VJ P s d (.int j a) K h=mV (IS P d) a K h:=by
 unfold IS at hd hs;split at hd
 ·rename_i k1 h1;split at hs
  ·rename_i k2 h2;simp only[VJ,convert,Zf,Zt h1,Zt h2];unfold IS;rw[h1];rfl
  ·cases hs
 ·cases hd
theorem gy {t:TypeId} {x y:Operand} {a b:ByteArray}:Y6 P .eql t x y (.string a) (.string b) K h=K (.bool (a.toList == b.toList)) h:=by
 simp[Y6,binOp,Op.stringOp,Zw,eqGuard]
theorem gz {t:TypeId} {x y:Operand} {a b:ByteArray}:Y6 P .neq t x y (.string a) (.string b) K h=K (.bool (!(a.toList == b.toList))) h:=by
 simp[Y6,binOp,Op.stringOp,Zw,eqGuard]
theorem G6 {cs:Array Bool} {t:TypeId} {p:Option Addr} {l c:Nat} (ht:(JD P t).isSome=true) :
  T6 P T .len #[t] ty cs [.slice p l c] K h=K (.int .i64 l) h:=by
 unfold JD at ht;split at ht
 ·rename_i e' hu;simp[T6,builtin,Builtin.len_,Zf,Zw,Zt hu,Xx,goInt]
 ·cases ht
theorem gC {t:TypeId} (h:Ul P t=true):P.underlying t=some .string:=by
 unfold Ul at h;split at h
 ·assumption
 ·cases h
theorem I0 {cs:Array Bool} {t:TypeId} {s:ByteArray} (ht:Ul P t=true) :
  T6 P T .len #[t] ty cs [.string s] K h=K (.int .i64 s.size) h:=by
 simp[T6,builtin,Builtin.len_,Zf,Zw,Zt (gC ht),Xx,goInt]
theorem uN {ts:Array TypeId} {cs:Array Bool} {k k':IntKind} {a b:Int}:T6 P T .min ts ty cs [.int k a,.int k' b] K h=K (.int k (if b<a then b else a)) h:=by
 simp[T6,builtin,Builtin.min_,Builtin.min2,Zw,Xx]
theorem uO {ts:Array TypeId} {cs:Array Bool} {k k':IntKind} {a b:Int}:T6 P T .max ts ty cs [.int k a,.int k' b] K h=K (.int k (if b>a then b else a)) h:=by
 simp[T6,builtin,Builtin.max_,Builtin.max2,Zw,Xx]
end
section
variable {P:Program} {T:World} {K:Value→Hp→Prop} {F:Env} {h:Hp} {ty:TypeId} {B:Value→Prop}
def mW (p:Option (Nat × Nat)) (place:Nat→Option (Nat × Nat)) (cs:List Value) (v:Value) (l:List (Nat × Value)):Option (List Value):=
 match p with
 | some (o,s)=>if (cl v).length=s∧o+s≤cs.length then Un place (Yw cs o (cl v)) l else none
 | none=>none
theorem gD {place:Nat→Option (Nat × Nat)} {cs:List Value}:Un place cs []=some cs:=rfl
theorem Aj {place:Nat→Option (Nat × Nat)} {cs:List Value} {i:Nat} {v:Value} {l:List (Nat × Value)}:Un place cs ((i,v) :: l)=mW (place i) place cs v l:=rfl
theorem EW {o s:Nat} {place:Nat→Option (Nat × Nat)} {cs:List Value} {v:Value} {l:List (Nat × Value)} :
  mW (some (o,s)) place cs v l=if (cl v).length=s∧o+s≤cs.length then Un place (Yw cs o (cl v)) l else none:=rfl
theorem gE {n i:Nat}:PN n i=some (i*n,n):=rfl
theorem I1 {z:List Value} {pl:List (Nat × Nat)} {n:TypeId→Option Nat} {parts:List (Nat × Value)}:RL (some z) (some pl) none n parts K h=LS (Un (nth pl) z parts) K h:=rfl
theorem Ak {z:List Value} {m e:Nat} {n:TypeId→Option Nat} {parts:List (Nat × Value)}:RL (some z) none (some (m,e)) n parts K h=Lm (n e) z parts K h:=rfl
theorem G7 {z:List Value} {n:Nat} {parts:List (Nat × Value)}:Lm (some n) z parts K h=LS (Un (PN n) z parts) K h:=rfl
theorem Am {e:TypeId} {len:Nat} {l:List Value}:di e len (some l) K h=K (.slice (some ⟨h.size,0,none⟩) len len) (h.push (.cells l.toArray e)):=rfl
theorem L6 {e:TypeId} {n len:Nat} {z:List Value} {parts:List (Nat × Value)}:SK e (some n) (some z) len parts K h=if z.length=n∧len*n≤16777216 then di e len (Ln n len z parts) K h else False:=rfl
theorem I3 {e:TypeId} {n:TypeId→Option Nat} {z:TypeId→Option (List Value)} {len:Nat} {parts:List (Nat × Value)}:PO (some e) n z len parts K h=SK e (n e) (z e) len parts K h:=rfl
theorem An {n o:Nat} {cs:List Value}:Ma (some true) (some n) cs o K h=K (.agg ((cs.drop o).take n).toArray) h:=rfl
theorem EX {n:Option Nat} {o:Nat} {cs:List Value}:Ma (some false) n cs o K h=MU (nth cs o) K h:=rfl
theorem gF {o t:Nat} {a:TypeId→Option Bool} {n:TypeId→Option Nat} {cs:List Value}:lV (some (o,t)) a n (.agg cs.toArray) K h=Ma (a t) (n t) cs o K h:=rfl
theorem mX {len e:Nat} {a:TypeId→Option Bool} {n:TypeId→Option Nat} {cs:List Value} {k:IntKind} {i:Int}:fR (some (len,e)) false a n (.agg cs.toArray) (.int k i) K h=dj (n e) (a e) len cs i K h:=rfl
theorem Ao {m len:Nat} {a:Option Bool} {cs:List Value} {i:Int}:dj (some m) a len cs i K h=if 0≤i∧i<(len:Int) then Ma a (some m) cs (i.toNat*m) K h else False:=rfl
theorem mY {a:TypeId→Option Bool} {n:TypeId→Option Nat} {s:ByteArray} {k:IntKind} {i:Int}:fR none true a n (.string s) (.int k i) K h=if 0≤i∧i<(s.size:Int) then K (.int .u8 ((s.data.toList.getD i.toNat 0).toNat:Nat)) h else False:=rfl
theorem uP {d y:Nat}:sb none d y=some d:=rfl
theorem ZaM {k:IntKind} {i:Int} {d y:Nat}:sb (some (.int k i)) d y=if 0≤i∧i≤(y:Int) then some i.toNat else none:=rfl
def Ro (a:Option Addr) (n cap b:Nat) (l:Option Nat) (K:Value→Hp→Prop) (h:Hp):Prop:=
 match l with|some l=>K (.slice (if cap=l then a else a.map (·.add (l*n))) (b-l) (cap-l)) h|none=>False
def mZ (n:Nat) (a:Option Addr) (cap:Nat) (lo:Option Value) (b:Option Nat) (K:Value→Hp→Prop) (h:Hp):Prop:=
 match b with|some b=>Ro a n cap b (sb lo 0 b) K h|none=>False
theorem Ap {n:Nat} {a:Option Addr} {len cap:Nat} {lo hi:Option Value}:TO (some n) a len cap lo hi K h=mZ n a cap lo (sb hi len cap) K h:=by
 unfold TO mZ Ro
 cases sb hi len cap<;>rfl
theorem Aq {n b:Nat} {a:Option Addr} {cap:Nat} {lo:Option Value}:mZ n a cap lo (some b) K h=Ro a n cap b (sb lo 0 b) K h:=rfl
theorem Ar {n b l k o:Nat} {cap:Nat}:Ro (some ⟨k,o,none⟩) n cap b (some l) K h=K (.slice (if cap=l then some ⟨k,o,none⟩ else some ⟨k,o+l*n,none⟩) (b-l) (cap-l)) h:=by
 simp only[Ro,Option.map_some,Y1]
theorem As {n b l:Nat} {cap:Nat}:Ro none n cap b (some l) K h=K (.slice none (b-l) (cap-l)) h:=by
 simp[Ro]
theorem At {e:Nat} {str:Bool} {n:TypeId→Option Nat} {a:Option Addr} {len cap:Nat} {lo hi:Option Value}:IT none (some e) str n (.slice a len cap) lo hi none K h=TO (n e) a len cap lo hi K h:=rfl
def m7 (n:Option Nat) (a:Option Addr) (len:Nat) (lo:Option Value) (hv:Value) (m:Option Nat) (K:Value→Hp→Prop) (h:Hp):Prop:=match m with|some m=>TO n a len m lo (some hv) K h|none=>False
theorem Au {n:Option Nat} {a:Option Addr} {len m:Nat} {lo:Option Value} {hv:Value}:m7 n a len lo hv (some m) K h=TO n a len m lo (some hv) K h:=rfl
theorem nc {e:Nat} {str:Bool} {n:TypeId→Option Nat} {a:Option Addr} {len cap:Nat} {lo:Option Value} {hv mv:Value}:IT none (some e) str n (.slice a len cap) lo (some hv) (some mv) K h=m7 (n e) a len lo hv (sb (some mv) 0 cap) K h:=by
 simp only[IT,m7]
 cases sb (some mv) 0 cap<;>rfl
theorem nf {e len:Nat} {str:Bool} {n:TypeId→Option Nat} {a:Addr} {lo hi:Option Value}:IT (some (len,e)) none str n (.pointer (some a)) lo hi none K h=TO (n e) (some a) len len lo hi K h:=rfl
def Zeh (s:ByteArray) (lo:Option Value) (b:Option Nat) (K:Value→Hp→Prop) (h:Hp):Prop:=
 match b with
 | some b=>(match sb lo 0 b with|some l=>K (.string (s.extract l b)) h|none=>False)
 | none=>False
theorem ng {n:TypeId→Option Nat} {s:ByteArray} {lo hi:Option Value}:IT none none true n (.string s) lo hi none K h=Zeh s lo (sb hi s.size s.size) K h:=rfl
theorem nh {e:Nat} {n b':TypeId→Option Nat} {z:TypeId→Option (List Value)} {k k':IntKind} {l c:Int}:vMk (some e) n b' z (.int k l) (.int k' c) K h=uh e (n e) (b' e) (z e) l c K h:=rfl
theorem gG {e n by':Nat} {z:List Value} {l c:Int}:uh e (some n) (some by') (some z) l c K h =
  if z.length=n∧0≤l∧l≤c∧c≤9223372036854775807∧(by':Int)*c≤281474976710656 then K (.slice (some ⟨h.size,0,none⟩) l.toNat c.toNat) (h.push (.cells (XZ c.toNat z).toArray e)) else False:=rfl
theorem uQ {t:TypeId} {x:Operand} {i:Nat}:GX P T (.field t x i) ty B F h = ∃u,lV (tfl P t i) (ta P) (tn P) (ev F x) (T7 u h) h∧ap B u:=rfl
theorem uR {t:TypeId} {x i:Operand}:GX P T (.index t x i) ty B F h = ∃u,fR (YF P t) (Ul P t) (ta P) (tn P) (ev F x) (ev F i) (T7 u h) h∧ap B u:=rfl
theorem uS {t:TypeId} {x:Operand} {lo hi mx:Option Operand}:GX P T (.slice t x lo hi mx) ty B F h = ∃u,IT (YF P t) (JD P t) (Ul P t) (tn P) (ev F x) (dk F lo) (dk F hi) (dk F mx) (T7 u h) h∧ap B u:=rfl
theorem gH {t:TypeId} {parts:Array (Nat × Operand)}:GX P T (.build t parts) ty B F h = ∃u,RL (tz P t) (Rb P t) (YF P t) (tn P) (BL F parts.toList) (T7 u h) h∧ap B u:=rfl
theorem ZaN {l:List Value}:cl (.agg l.toArray)=l:=rfl
theorem SN {l:List Value} {t:TypeId} {b o:Nat}:hc (h.push (.cells l.toArray t)) ⟨b,o,none⟩=if b=h.size then nth l o else hc h ⟨b,o,none⟩:=by
 unfold hc;simp only[Array.getElem?_push];by_cases hb:b=h.size
 ·subst hb;simp[Yj]
 ·simp[hb]
theorem dq {l:List Value} {t:TypeId} {b o n:Nat}:rd (h.push (.cells l.toArray t)) ⟨b,o,none⟩ n=if b=h.size then (if o+n≤l.length then some ((l.drop o).take n) else none) else rd h ⟨b,o,none⟩ n:=by
 unfold rd;simp only[Array.getElem?_push];by_cases hb:b=h.size
 ·subst hb;simp
 ·simp[hb]
def EY (x:Option Hp) (o:Obj):Option Hp:=match x with|some h=>some (h.push o)|none=>none
theorem Av {o:Obj}:EY (some h) o=some (h.push o):=rfl
theorem set_push {o o':Obj} {b:Nat} (hb:b<h.size):(h.push o).setIfInBounds b o'=(h.setIfInBounds b o').push o:=by
 apply Array.ext_getElem?;intro i;simp only[Array.getElem?_setIfInBounds,Array.getElem?_push,Array.size_push,Array.size_setIfInBounds];by_cases h1:b=i
 ·subst h1;rw[if_pos rfl,if_pos (by omega),if_neg (by omega),if_pos rfl,if_pos hb]
 ·rw[if_neg h1];by_cases h2:i=h.size
  ·rw[if_pos h2,if_pos h2]
  ·rw[if_neg h2,if_neg h2,if_neg h1]
theorem WR {o o':Obj}:(h.push o).setIfInBounds h.size o'=h.push o':=by
 apply Array.ext_getElem?;intro i;simp only[Array.getElem?_setIfInBounds,Array.getElem?_push,Array.size_push];by_cases h1:h.size=i
 ·subst h1;rw[if_pos rfl,if_pos (by omega),if_pos rfl]
 ·rw[if_neg h1,if_neg (fun e=>h1 e.symm),if_neg (fun e=>h1 e.symm)]
theorem nj {l:List Value} {t:TypeId} {b o:Nat} {v:Value}:JK (h.push (.cells l.toArray t)) ⟨b,o,none⟩ v=if b=h.size then (if o<l.length∧Z6 v=true then some (h.push (.cells (l.set o v).toArray t)) else none) else EY (JK h ⟨b,o,none⟩ v) (.cells l.toArray t):=by
 unfold JK;simp only[Array.getElem?_push];by_cases hb:b=h.size
 ·subst hb;simp only[↓reduceIte,List.size_toArray,Nat.le_refl,true_and,WR,List.setIfInBounds_toArray]
 ·simp only[if_neg hb]
  cases hx:h[b]? with
  | none=>rfl
  | some ob=>
   have ZD:=(Array.getElem?_eq_some_iff.1 hx).1
   cases ob with
   | cells c e fr=>
    obtain⟨lo,hi⟩:=fr;simp only;split
    ·simp only[EY,set_push ZD]
    ·rfl
   | _=>rfl
theorem uT {l:List Value} {t:TypeId} {b o:Nat} {vs:List Value}:wr (h.push (.cells l.toArray t)) ⟨b,o,none⟩ vs=if b=h.size then (if o+vs.length≤l.length∧vs.all Z6=true then some (h.push (.cells (Yw l o vs).toArray t)) else none) else EY (wr h ⟨b,o,none⟩ vs) (.cells l.toArray t):=by
 unfold wr;simp only[Array.getElem?_push];by_cases hb:b=h.size
 ·subst hb;simp only[↓reduceIte,List.size_toArray,Nat.le_refl,true_and,WR]
 ·simp only[if_neg hb]
  cases hx:h[b]? with
  | none=>rfl
  | some ob=>
   have ZD:=(Array.getElem?_eq_some_iff.1 hx).1
   cases ob with
   | cells c e fr=>
    obtain⟨lo,hi⟩:=fr;simp only;split
    ·simp only[EY,set_push ZD]
    ·rfl
   | _=>rfl
end
def Xb (h:Hp) (b o:Nat) (cs:List Value):Prop:=∀i (hi:i<cs.length),hc h ⟨b,o+i,none⟩=some cs[i]
def Sl (n:Nat) (h:Hp) (v:Value) (m:Nat) (cs:List Value):Prop:=
 ∃p cap,v=.slice p m cap∧cs.length=m*n∧(cs≠[]→∃b o,p=some ⟨b,o,none⟩∧Xb h b o cs)
def Qx (B:Nat) (E:TypeId) (n:Nat) (h:Hp) (v:Value) (m:Nat) (cs:List Value):Prop:=
 ((∃p,v=.slice p 0 0)∧m=0∧cs=[]) ∨
 ∃b cap spare,B≤b∧v=.slice (some ⟨b,0,none⟩) m cap∧h[b]? = some (.cells (cs++spare).toArray E (0,0))∧cs.length=m*n∧spare.length=(cap-m)*n∧m≤cap
structure Zg (B:Nat) (h h':Hp):Prop where
 size:h.size≤h'.size
 block:∀b,b<B→h'[b]? = h[b]?
theorem Zg.refl (B:Nat) (h:Hp):Zg B h h:=⟨Nat.le_refl _,fun _ _=>rfl⟩
theorem Zg.trans {B:Nat} {h h' O1:Hp} (a:Zg B h h') (b:Zg B h' O1):Zg B h O1:=
 ⟨Nat.le_trans a.size b.size,fun k hk=>(b.block k hk).trans (a.block k hk)⟩
theorem Zg.mono {B B':Nat} {h h':Hp} (a:Zg B h h') (hB:B'≤B):Zg B' h h':=⟨a.size,fun k hk=>a.block k (Nat.lt_of_lt_of_le hk hB)⟩
theorem Zg.push {B:Nat} {h:Hp} (hB:B≤h.size) (o:Obj):Zg B h (h.push o):=
 ⟨by simp,fun k hk=>by rw[Array.getElem?_push,if_neg (by omega)]⟩
theorem Zg.set {B:Nat} {h:Hp} {b:Nat} (hb:B≤b) (o:Obj):Zg B h (h.setIfInBounds b o):=
 ⟨by simp,fun k hk=>by rw[Array.getElem?_setIfInBounds,if_neg (by omega)]⟩
theorem Zg.hc {B:Nat} {h h':Hp} (a:Zg B h h') {p:Addr} (hp:p.block<B):hc h' p=hc h p:=by unfold V.hc;rw[a.block _ hp]
theorem Za {h:Hp} {b:Nat} {o:Obj} (hb:h[b]? = some o):b<h.size:=(Array.getElem?_eq_some_iff.1 hb).1
theorem Up {h:Hp} {p:Addr} {v:Value} (hp:hc h p=some v):p.block<h.size:=by
 unfold hc at hp
 cases hb:h[p.block]? with
 | none=>rw[hb]at hp;cases hp
 | some o=>exact Za hb
theorem VM {h:Hp} {b:Nat} {c:Array Value} {e:TypeId} {fr:Nat × Nat} (hb:h[b]? = some (.cells c e fr)) (o:Nat):hc h ⟨b,o,none⟩=c[o]?:=by
 unfold hc;simp only[hb];rfl
theorem Zg.Xb {B:Nat} {h h':Hp} (a:Zg B h h') {b o:Nat} {cs:List Value} (hb:b<B) (YQ:Xb h b o cs):Xb h' b o cs:=
 fun i hi=>by rw[a.hc (by exact hb)];exact YQ i hi
theorem Sl.Z3 {n:Nat} {h h':Hp} {v:Value} {m:Nat} {cs:List Value} (s:Sl n h v m cs) (a:Zg h.size h h'):Sl n h' v m cs:=by
 obtain⟨p,cap,hv,hl,hc⟩:=s;refine⟨p,cap,hv,hl,fun Yv=>?_⟩;obtain⟨b,o,hp,YQ⟩:=hc Yv;refine⟨b,o,hp,a.Xb ?_ YQ⟩;have LW:0<cs.length:=List.length_pos_iff.2 Yv;exact Up (YQ 0 LW)
theorem Qx.sl {B:Nat} {E:TypeId} {n:Nat} {h:Hp} {v:Value} {m:Nat} {cs:List Value} (s:Qx B E n h v m cs):Sl n h v m cs:=by
 rcases s with⟨⟨p,rfl⟩,rfl,rfl⟩|⟨b,cap,spare,hB,rfl,hb,hl,_,_⟩
 ·exact⟨p,0,rfl,by simp,fun h=>(h rfl).elim⟩
 ·refine⟨_,cap,rfl,hl,fun _=>⟨b,0,rfl,fun i hi=>?_⟩⟩;rw[VM hb,Nat.zero_add];simp[List.getElem?_append_left hi]
theorem Qx.nil (B:Nat) (E:TypeId) (n:Nat) (h:Hp):Qx B E n h (.slice none 0 0) 0 []:=.inl ⟨⟨none,rfl⟩,rfl,rfl⟩
theorem Qx.I4 (B:Nat) (E:TypeId) (n:Nat) (h:Hp) (p:Option Addr):Qx B E n h (.slice p 0 0) 0 []:=.inl ⟨⟨p,rfl⟩,rfl,rfl⟩
def ZO:Value→Option Nat
 | .slice (some a) _ cap=>if cap=0 then none else some a.block
 | _=>none
structure Tm (x:Option Nat) (h h':Hp):Prop where
 size:h.size≤h'.size
 block:∀b,b<h.size→x≠some b→h'[b]? = h[b]?
theorem Tm.Z3 {x:Option Nat} {h h':Hp} (a:Tm x h h') {B:Nat} (hB:B≤h.size) (hx:∀b,x=some b→B≤b):Zg B h h':=
 ⟨a.size,fun k hk=>a.block k (by omega) (fun e=>by have:=hx k e;omega)⟩
theorem Qx.ZG {B:Nat} {E:TypeId} {n:Nat} {h:Hp} {v:Value} {m:Nat} {cs:List Value} (s:Qx B E n h v m cs):∀b,ZO v=some b→B≤b:=by
 intro b hb;rcases s with⟨⟨p,rfl⟩,_,_⟩|⟨b',cap,spare,hB,rfl,_⟩
 ·cases p<;>simp[ZO]at hb
 ·simp only[ZO]at hb;split at hb
  ·cases hb
  ·simp only[Option.some.injEq]at hb;omega
theorem Qx.MV {B:Nat} {E:TypeId} {n:Nat} {h h':Hp} {v:Value} {m:Nat} {cs:List Value} (s:Qx B E n h v m cs) {x:Option Nat} (a:Tm x h h') (hx:∀b,ZO v=some b→x≠some b):Qx B E n h' v m cs:=by
 rcases s with s|⟨b,cap,spare,hB,rfl,hb,r⟩
 ·exact .inl s
 ·by_cases hc:cap=0
  ·subst hc;obtain⟨r1,r2,r3⟩:=r;have hm:m=0:=by omega
   subst hm;exact .inl ⟨⟨_,rfl⟩,rfl,List.eq_nil_of_length_eq_zero (by simpa using r1)⟩
  ·exact .inr ⟨b,cap,spare,hB,rfl,by rw[a.block b (Za hb) (hx b (by simp[ZO,hc]))];exact hb,r⟩
theorem Tm.push {h:Hp} (o:Obj) {x:Option Nat}:Tm x h (h.push o):=⟨by simp,fun k hk _=>by rw[Array.getElem?_push,if_neg (by omega)]⟩
theorem Tm.refl {h:Hp} {x:Option Nat}:Tm x h h:=⟨Nat.le_refl _,fun _ _ _=>rfl⟩
theorem Qx.push {B:Nat} {E:TypeId} {n:Nat} {h:Hp} {v:Value} {m:Nat} {cs:List Value} (s:Qx B E n h v m cs) (o:Obj):Qx B E n (h.push o) v m cs:=
 s.MV (x:=none) (Tm.push o) (fun _ _=>by simp)
theorem Qx.Z3 {B C:Nat} {E:TypeId} {n:Nat} {h h':Hp} {v:Value} {m:Nat} {cs:List Value} (s:Qx B E n h v m cs) (a:Zg C h h') (hC:h.size≤C):Qx B E n h' v m cs:=
 s.MV (x:=none) ⟨a.size,fun b hb _=>a.block b (by omega)⟩ (fun _ _=>by simp)
theorem Qx.mono {B B':Nat} {E:TypeId} {n:Nat} {h:Hp} {v:Value} {m:Nat} {cs:List Value} (s:Qx B E n h v m cs) (hB:B'≤B):Qx B' E n h v m cs:=by
 rcases s with s|⟨b,cap,spare,hb,r⟩
 ·exact .inl s
 ·exact .inr ⟨b,cap,spare,by omega,r⟩
section
variable {P:Program} {T:World} {K:Value→Hp→Prop} {F:Env} {h:Hp} {ty:TypeId}
theorem Z1 {n m:Nat} {v:Value} {cs:List Value} (s:Sl n h v m cs) {Q:Array Value→Hp→Prop} (H:Q cs.toArray h):hw P (Builtin.firstCells n m v) Q h:=by
 obtain⟨p,cap,rfl,hl,hc⟩:=s
 cases p with
 | none=>
  have:cs=[]:=by
   cases cs with
   | nil=>rfl
   | cons x l=>obtain⟨b,o,hp,_⟩:=hc (by simp);cases hp
  subst this;exact H
 | some a=>
  show hw P (loadCells a (m*n)) Q h;rw[←hl];refine run_loadCells a cs _ 0 #[] (fun j hj=>?_) rfl (by simpa using H);obtain⟨b,o,hp,YQ⟩:=hc (by intro e;subst e;simp at hj);simp only[Option.some.injEq]at hp;subst hp;rw[Y1,Nat.zero_add,YQ j hj];simp[hj]
theorem Sl.lenOf {n m:Nat} {v:Value} {cs:List Value} (s:Sl n h v m cs) {Q:Nat→Hp→Prop}:hw P (Builtin.lenOf v) Q h=Q m h:=by
 obtain⟨p,cap,rfl,_,_⟩:=s;rfl
theorem Wc (l r vs:List Value):Yw (l++r) l.length vs=l++Yw r 0 vs:=by
 induction l with
 | nil=>simp
 | cons x l ih=>
  cases vs with
  | nil=>simp[Yw]
  | cons v vs=>simp only[List.cons_append,List.length_cons,Yw];rw[ih]
theorem Qy (r vs:List Value) (h:vs.length≤r.length):Yw r 0 vs=vs++r.drop vs.length:=by
 induction vs generalizing r with
 | nil=>simp[Yw]
 | cons v vs ih=>
  cases r with
  | nil=>simp at h
  | cons x r=>simp only[Yw,List.cons_append,List.length_cons,List.drop_succ_cons];rw[ih r (by simpa using h)]
theorem YJ (z:Array Value) (n:Nat):(Builtin.zeroCells z n).size=n*z.size:=by simp[Builtin.zeroCells]
theorem We (UI cap bytes:Nat) (ZD:cap<UI) (hb:UI*bytes≤140737488355328):Builtin.nextslicecap UI cap*bytes≤281474976710656:=by
 have g1:∀(r c:Nat),UI≤c→Builtin.growBy UI r c=c:=by
  intro r c hc
  cases r with
  | zero=>rfl
  | succ r=>simp[Builtin.growBy,hc]
 have g2:∀(r c:Nat),c<UI→Builtin.growBy UI r c≤UI+(UI+768)/4:=by
  intro r
  induction r with
  | zero=>intro c hc;simp only[Builtin.growBy];omega
  | succ r ih=>
   intro c hc;simp only[Builtin.growBy];rw[if_neg (by omega)];by_cases h2:c+(c+768)/4<UI
   ·exact ih _ h2
   ·rw[g1 r _ (by omega)];omega
 have key:Builtin.nextslicecap UI cap≤2*UI+192:=by
  unfold Builtin.nextslicecap;split
  ·omega
  ·split
   ·omega
   ·have:=g2 4 cap ZD;omega
 have e1:Builtin.nextslicecap UI cap*bytes≤(2*UI+192)*bytes:=Nat.mul_le_mul_right _ key;unfold Builtin.nextslicecap;split
 ·omega
 ·rename_i h1;split
  ·have:2*cap*bytes≤2*UI*bytes:=Nat.mul_le_mul_right _ (by omega);have e:2*UI*bytes=2*(UI*bytes):=by rw[Nat.mul_assoc]
   omega
  ·rename_i h2;have hg:=g2 4 cap ZD;have h3:Builtin.growBy UI 4 cap*bytes≤(UI+(UI+768)/4)*bytes:=Nat.mul_le_mul_right _ hg;have h4:(UI+(UI+768)/4)*bytes≤(2*UI)*bytes:=Nat.mul_le_mul_right _ (by omega);have e:2*UI*bytes=2*(UI*bytes):=by rw[Nat.mul_assoc]
   omega
theorem L9 {sT xT E E' B n m k bytes:Nat} {v s:Value} {cs news zs:List Value} {cb:Array Bool} (US:JD P sT=some E) (G8:P.underlying xT=some (.slice E')) (hn:tn P E=some n) (hz:tz P E=some zs) (Aw:zs.length=n) (SM:tb P E=some bytes)
  (own:Qx B E n h v m cs) (hB:B≤h.size) (src:Sl n h s k news) (Y9:news.all Z6=true) (Yr:(m+k)*bytes≤140737488355328) (Ka:1≤bytes)
  (H:∀v' h',Qx B E n h' v' (m+k) (cs++news)→Tm (ZO v) h h'→K v' h'):T6 P T .append #[sT,xT] ty cb [v,s] K h:=by
 unfold JD at US;split at US
 ·rename_i e' hu;simp only[Option.some.injEq]at US;subst US;show hw P (do pure (.value (←Builtin.append_ #[sT,xT] ty #[v,s]))) (Xx P T K) h;rw[Zf];show hw P (Builtin.append_ #[sT,xT] ty #[v,s]) K h;obtain⟨i0,T3⟩:∃i,P.info? e'=some i:=by
   unfold tn at hn
   cases hi:P.info? e' with
   | none=>rw[hi]at hn;cases hn
   | some i=>exact⟨i,rfl⟩
  have RN:i0.bytes=bytes:=by unfold tb at SM;rw[T3]at SM;simpa using SM
  obtain⟨z0,Eu,Ax⟩:∃z,i0.zero=some z∧z.cells.toList=zs:=by
   unfold tz at hz;rw[T3]at hz
   cases Lq:i0.zero with
   | none=>rw[Option.bind_some,Lq]at hz;cases hz
   | some z=>rw[Option.bind_some,Lq]at hz;exact⟨z,rfl,by simpa using hz⟩
  have ug:∃base cap,v=.slice base m cap:=by
   rcases own with⟨⟨p,rfl⟩,rfl,_⟩|⟨b,cap,sp,_,rfl,_⟩
   ·exact⟨_,_,rfl⟩
   ·exact⟨_,_,rfl⟩
  obtain⟨base,cap,hv⟩:=ug;subst hv;have gI:∀{Q:Value→Hp→Prop} (g:Hp),hw P (zeroValue e') Q g=Q z0 g:=fun {Q} g=>by
   unfold zeroValue;rw[Zf,Xf T3];simp only[Eu];rfl
  simp only[Builtin.append_,List.getElem?_toArray,List.getElem?_cons_zero,List.getElem?_cons_succ,Zf,Zw,Zt hu,Zt G8,run_sizeOf hn,Bool.false_eq_true,if_false,src.lenOf,Bool.not_false,if_true];by_cases Qi:m+k≤cap
  ·rw[if_pos Qi,Zf];refine Z1 src ?_;have Uq:news.length=k*n:=by obtain⟨_,_,_,hl,_⟩:=src;exact hl
   by_cases Yv:news=[]
   ·subst Yv;have nk:hw P (match base with|some a=>(do storeCells (a.add (m*n)) [];pure (Value.slice base (m+k) cap))|none=>pure (Value.slice base (m+k) cap)) K h=K (.slice base (m+k) cap) h:=by
     cases base<;>rfl
    have hK:K (.slice base (m+k) cap) h:=by
     refine H _ _ ?_ Tm.refl;rcases own with⟨⟨p,h1⟩,h2,h3⟩|⟨b,Kb,spare,Ls,h1,hb,hl,Rp,kM⟩
     ·simp only[Value.slice.injEq]at h1;obtain⟨rfl,rfl,rfl⟩:=h1;have hk:k=0:=by omega
      subst hk;subst h3;exact .inl ⟨⟨_,rfl⟩,rfl,rfl⟩
     ·simp only[Value.slice.injEq]at h1;obtain⟨rfl,_,rfl⟩:=h1;have kO:k*n=0:=by simpa using Uq.symm
      refine .inr ⟨b,cap,spare,Ls,rfl,by simpa using hb,by rw[List.append_nil,hl,Nat.add_mul,kO];rfl,?_,Qi⟩;rw[Rp,Nat.sub_mul,Nat.sub_mul,Nat.add_mul,kO,Nat.add_zero]
    cases base<;>exact hK
   rcases own with⟨⟨p,h1⟩,h2,h3⟩|⟨b,Kb,spare,Ls,h1,hb,hl,Rp,kM⟩
   ·simp only[Value.slice.injEq]at h1;obtain⟨rfl,rfl,rfl⟩:=h1;have hk:k=0:=by omega
    subst hk;exact (Yv (List.eq_nil_of_length_eq_zero (by simpa using Uq))).elim
   ·simp only[Value.slice.injEq]at h1;obtain⟨rfl,_,rfl⟩:=h1;simp only[Zf,Y1];have Tq:news.length≤spare.length:=by rw[Uq,Rp];exact Nat.mul_le_mul_right _ (by omega)
    refine Yi (e:=e') (lo:=0) (hi:=0) rfl (Nat.le_refl _) news 0 h (cs++spare).toArray hb ?_ Y9 ?_
    ·simp;rw[←hl];omega
    ·simp only[Zw,Nat.zero_add,Nat.add_zero];refine H _ _ (.inr ⟨b,cap,spare.drop news.length,Ls,rfl,?_,?_,?_,Qi⟩) ⟨by simp,fun b' XU hx=>?_⟩
     ·rw[Array.getElem?_setIfInBounds,if_pos rfl,if_pos (Za hb)];rw[←hl,Wc,Qy _ _ Tq,List.append_assoc]
     ·rw[List.length_append,hl,Uq,Nat.add_mul]
     ·rw[List.length_drop,Rp,Uq,←Nat.sub_mul];congr 1;omega
     ·rw[Array.getElem?_setIfInBounds,if_neg];intro e;subst e;have hcz:cap≠0:=by
       intro h0;subst h0;have:k=0:=by omega
       subst this;exact Yv (List.eq_nil_of_length_eq_zero (by simpa using Uq))
      exact hx (by simp[ZO,hcz])
  ·rw[if_neg Qi];have QN:¬Builtin.nextslicecap (m+k) cap*i0.bytes>2 ^ 48:=by
    rw[RN];have:=We (m+k) cap bytes (by omega) Yr;omega
   have Ay:¬i0.bytes=0:=by rw[RN];omega
   simp only[Zf,Xf T3,Ay,or_false,and_false,if_false,if_neg QN];intro t;obtain⟨c,hc⟩:=Zy (Question.cut (Question.appendCap (m+k) cap e') t);have np:m+k≤c:=by rw[hc];simp only[Question.cut];omega
   rw[←hc];have RO:∀{Q:Unit→Hp→Prop} (b:Nat) (g:Hp),Q () g→hw P (askRoom b) Q g:=fun {Q} b g q=>by
    unfold askRoom;split<;>exact q
   refine RO _ _ (Z1 own.sl (Z1 src ?_));rw[gI];have nq:z0.cells.size=n:=by rw[←Aw,←Ax];simp
   refine H (.slice (some ⟨h.size,0,none⟩) (m+k) c) _ (.inr ⟨h.size,c,(Builtin.zeroCells z0.cells (c-(m+k))).toList,hB,rfl,?_,?_,?_,np⟩) (Tm.push _)
   ·rw[Array.getElem?_push_size];simp
   ·have Uq:news.length=k*n:=by obtain⟨_,_,_,hl,_⟩:=src;exact hl
    have XR:cs.length=m*n:=by obtain⟨_,_,_,hl,_⟩:=own.sl;exact hl
    rw[List.length_append,XR,Uq,Nat.add_mul]
   ·rw[Array.length_toList,YJ,nq]
 ·cases US
def bv (x:Nat):Value:=.int .u8 x
structure Bs (h:Hp) (v:Value) (l:List Nat):Prop where
 sl:Sl 1 h v l.length (l.map bv)
 byte:∀x∈l,x<256
structure Z0 (B:Nat) (E:TypeId) (h:Hp) (v:Value) (l:List Nat):Prop where
 own:Qx B E 1 h v l.length (l.map bv)
 byte:∀x∈l,x<256
theorem Z0.bs {B:Nat} {E:TypeId} {h:Hp} {v:Value} {l:List Nat} (s:Z0 B E h v l):Bs h v l:=⟨s.own.sl,s.byte⟩
theorem Bs.Z3 {h h':Hp} {v:Value} {l:List Nat} (s:Bs h v l) (a:Zg h.size h h'):Bs h' v l:=⟨s.sl.Z3 a,s.byte⟩
theorem Z0.Z3 {B C:Nat} {E:TypeId} {h h':Hp} {v:Value} {l:List Nat} (s:Z0 B E h v l) (a:Zg C h h') (hC:h.size≤C):Z0 B E h' v l:=⟨s.own.Z3 a hC,s.byte⟩
theorem Z0.mono {B B':Nat} {E:TypeId} {h:Hp} {v:Value} {l:List Nat} (s:Z0 B E h v l) (hB:B'≤B):Z0 B' E h v l:=⟨s.own.mono hB,s.byte⟩
theorem Z0.push {B:Nat} {E:TypeId} {h:Hp} {v:Value} {l:List Nat} (s:Z0 B E h v l) (o:Obj):Z0 B E (h.push o) v l:=⟨s.own.push o,s.byte⟩
theorem Z0.nil (B:Nat) (E:TypeId) (h:Hp):Z0 B E h (.slice none 0 0) []:=⟨Qx.nil B E 1 h,fun _ h=>by cases h⟩
theorem Tt (l:List Nat):(l.map bv).all Z6=true:=by simp[bv,Z6]
theorem Bs.open {v:Value} {l:List Nat} (s:Bs h v l):∃p cap,v=.slice p l.length cap∧(l≠[]→∃b o,p=some ⟨b,o,none⟩∧b<h.size∧∀i (hi:i<l.length),hc h ⟨b,o+i,none⟩=some (.int .u8 (l[i]:Nat))):=by
 obtain⟨⟨p,cap,hv,_,hc⟩,_⟩:=s;refine⟨p,cap,hv,fun Yv=>?_⟩;obtain⟨b,o,hp,YQ⟩:=hc (by simpa using Yv);refine⟨b,o,hp,?_,fun i hi=>?_⟩
 ·exact Up (YQ 0 (by simpa using List.length_pos_iff.2 Yv))
 ·have:=YQ i (by simpa using hi)
  simpa [bv] using this
theorem G9:∀(l:List Nat) (s:ByteArray) {Q:Value→Hp→Prop},Q (.string ⟨s.data++(l.map UInt8.ofNat).toArray⟩) h →
  hw P (do
   let s ←forIn (l.map bv) s fun c (s:ByteArray)=>do
    let .int .u8 n:=c|stuck "bytesToString: byte expected"
    pure (ForInStep.yield (s.push (UInt8.ofNat n.toNat)))
   pure (Value.string s)) Q h:=by
 intro l
 induction l with
 | nil=>intro s Q H;simpa [Zw] using H
 | cons x l ih=>
  intro s Q H;rw[List.map_cons,List.forIn_cons,Zf,Zf];show hw P _ _ h;have:=ih (s.push (UInt8.ofNat x)) (Q:=Q) (by simpa [ByteArray.push] using H);rw[Zf]at this
  simpa [bv,Zw] using this
theorem EZ {S D E:TypeId} {v:Value} {l:List Nat} (hS:P.underlying S=some (.slice E)) (hD:P.underlying D=some .string) (hE:P.underlying E=some (.int .u8)) (s:Bs h v l)
  (H:K (.string ⟨(l.map UInt8.ofNat).toArray⟩) h):VJ P S D v K h:=by
 have s0:=s.sl;obtain⟨⟨p,cap,rfl,hl,hc⟩,hb⟩:=s;unfold VJ convert;rw[Zf,Zt hS,Zf,Zt hD];simp only;rw[Zf,Zt hE];unfold Conv.bytesToString
 cases p with
 | none=>
  have:l=[]:=by
   cases l with
   | nil=>rfl
   | cons x l=>obtain⟨b,o,hp,_⟩:=hc (by simp);cases hp
  subst this;exact H
 | some a=>
  simp only;rw[Zf];have h1:=Z1 (P:=P) s0 (Q:=fun cs g=>hw P (do
   let s ←forIn cs ByteArray.empty fun c (s:ByteArray)=>do
    let .int .u8 n:=c|stuck "bytesToString: byte expected"
    pure (ForInStep.yield (s.push (UInt8.ofNat n.toNat)))
   pure (Value.string s)) K g)
  unfold Builtin.firstCells at h1;rw[Nat.mul_one]at h1;refine h1 ?_;rw[List.forIn_toArray];exact G9 l _ (by simpa using H)
theorem nr (l k:List Nat) (hl:∀x∈l,x<256) (hk:∀x∈k,x<256):((⟨(l.map UInt8.ofNat).toArray⟩:ByteArray).toList == (⟨(k.map UInt8.ofNat).toArray⟩:ByteArray).toList)=decide (l=k):=by
 have e:∀l:List Nat,(⟨(l.map UInt8.ofNat).toArray⟩:ByteArray).toList=l.map UInt8.ofNat:=by
  intro l;rw[ByteArray.toList_eq]
 rw[e,e,Bool.eq_iff_iff,beq_iff_eq,decide_eq_true_eq]
 constructor
 ·intro h;have h2:(l.map UInt8.ofNat).map UInt8.toNat=(k.map UInt8.ofNat).map UInt8.toNat:=by rw[h]
  rw[List.map_map,List.map_map]at h2;have g:∀l:List Nat,(∀x∈l,x<256)→l.map (UInt8.toNat ∘ UInt8.ofNat)=l:=by
   intro l hl
   conv=>rhs;rw[←List.map_id l]
   refine List.map_congr_left fun x hx=>?_;have:=hl x hx;simp;omega
  rwa [g l hl,g k hk]at h2
 ·intro h;rw[h]
end
attribute [go_sem] uq ZaE ur ZaF uw mq fY uy uz mj mm fX mo BV mh BS BU EM mg
 WQ ZaL mE gh uF fQ Zm gj uG IP QY Ad gk cl gm gn HK L0 mF Af ER GZ IZ
 L1 Ag ES L4 Ah ET uI gq gu L5 G0 gv Ai
 mG mH mI mJ mK mL uJ mM EU mN mO mP mQ mR mS mT mU uK uL uM gx EV
 gy gz G6 I0 uN uO my BW BX EN ZaG uA kL mz BY mB BZ mC fZ Aa ga EO ZaH uC gd gg EP LZ uD GY uE ZaJ mD ZaK RP
 LQ JC RJ Option.map_some Option.bind_some Option.isSome_some decide_eq_true_eq decide_eq_false_iff_not
attribute [go_sem] gD Aj EW gE I1 Ak G7 Am L6 I3 An EX gF mX Ao mY uP ZaM Ap Aq Ar As At nc Au nf ng
 nh gG uQ uR uS gH ZaN SN dq Av nj uT BL dk nth Yw BM Ln Z6 List.toList_toArray List.length_cons List.length_nil List.drop_succ_cons List.drop_zero List.take_succ_cons List.take_zero List.set_cons_zero List.set_cons_succ
 List.all_cons List.all_nil Bool.and_true Array.size_push Nat.zero_add List.take_nil List.drop_nil
def vi:Value→Int|.int _ n=>n|_=>0
theorem Ym {α:Type} (l:List α) (i:Nat) (hi:i<l.length):l.take (i+1)=l.take i++[l[i]]:=List.take_succ_eq_append_getElem hi
def w64 (n:Int):Int:=IntKind.i64.wrap n
theorem Az (n:Int):IntKind.i64.wrap n=if -9223372036854775808≤n∧n≤9223372036854775807 then n else w64 n:=by
 split
 ·rename_i h;exact IntWalk.i64_in n h
 ·rfl
theorem E6 (n:Int):IntKind.u8.wrap n=n%256:=by simp[IntKind.wrap,IntKind.bits,IntKind.signed]
theorem PU (n:Int):IntKind.u32.wrap n=n%4294967296:=by simp[IntKind.wrap,IntKind.bits,IntKind.signed]
theorem PV (n:Int):IntKind.u64.wrap n=n%18446744073709551616:=by simp[IntKind.wrap,IntKind.bits,IntKind.signed]
attribute [go_sem] Az E6 PU PV true_and and_true ne_eq not_true_eq_false not_false_eq_true decide_true decide_false Bool.false_eq_true Int.toNat_natCast Nat.mul_one
theorem O9 (w a:Nat):BitVec.ofInt w (a:Int)=BitVec.ofNat w a:=by
 apply BitVec.eq_of_toNat_eq;simp[BitVec.toNat_ofNat]
theorem VN (k:IntKind) (n:Nat) (h:n<2 ^ (if k.signed then k.bits-1 else k.bits)):k.wrap (n:Int)=n:=by
 cases k<;>simp[IntKind.wrap,IntKind.bits,IntKind.signed]at h ⊢<;>omega
theorem SO (k:IntKind) (a b:Nat) (ha:a<2 ^ (if k.signed then k.bits-1 else k.bits)) (hb:b<2 ^ (if k.signed then k.bits-1 else k.bits)):Yb .and k a b=((a &&& b:Nat):Int):=by
 have hle:2 ^ (if k.signed then k.bits-1 else k.bits)≤2 ^ k.bits:=Nat.pow_le_pow_right (by omega) (by split<;>omega);simp only[Yb,O9];rw[BitVec.toNat_and,BitVec.toNat_ofNat,BitVec.toNat_ofNat,Nat.mod_eq_of_lt (by omega),Nat.mod_eq_of_lt (by omega)];exact VN k _ (Nat.lt_of_le_of_lt Nat.and_le_left ha)
theorem PW (k:IntKind) (a b:Nat) (ha:a<2 ^ (if k.signed then k.bits-1 else k.bits)) (hb:b<2 ^ (if k.signed then k.bits-1 else k.bits)):Yb .or k a b=((a ||| b:Nat):Int):=by
 have hle:2 ^ (if k.signed then k.bits-1 else k.bits)≤2 ^ k.bits:=Nat.pow_le_pow_right (by omega) (by split<;>omega);simp only[Yb,O9];rw[BitVec.toNat_or,BitVec.toNat_ofNat,BitVec.toNat_ofNat,Nat.mod_eq_of_lt (by omega),Nat.mod_eq_of_lt (by omega)];exact VN k _ (Nat.or_lt_two_pow ha hb)
theorem HL (k:IntKind) (a b:Nat) (ha:a<2 ^ (if k.signed then k.bits-1 else k.bits)) (hb:b<2 ^ (if k.signed then k.bits-1 else k.bits)):Yb .xor k a b=((a ^^^ b:Nat):Int):=by
 have hle:2 ^ (if k.signed then k.bits-1 else k.bits)≤2 ^ k.bits:=Nat.pow_le_pow_right (by omega) (by split<;>omega);simp only[Yb,O9];rw[BitVec.toNat_xor,BitVec.toNat_ofNat,BitVec.toNat_ofNat,Nat.mod_eq_of_lt (by omega),Nat.mod_eq_of_lt (by omega)];exact VN k _ (Nat.xor_lt_two_pow ha hb)
theorem nt (a b:Nat) (ha:a<256) (hb:b<256):Yb .and .u8 a b=((a &&& b:Nat):Int):=SO .u8 a b ha hb
theorem Zei (a b:Nat) (ha:a<256) (hb:b<256):Yb .or .u8 a b=((a ||| b:Nat):Int):=PW .u8 a b ha hb
theorem Fa (a b:Nat) (ha:a<256) (hb:b<256):Yb .xor .u8 a b=((a ^^^ b:Nat):Int):=HL .u8 a b ha hb
theorem PX (a b:Nat) (ha:a<4294967296) (hb:b<4294967296):Yb .and .u32 a b=((a &&& b:Nat):Int):=SO .u32 a b ha hb
theorem Sa (a b:Nat) (ha:a<4294967296) (hb:b<4294967296):Yb .or .u32 a b=((a ||| b:Nat):Int):=PW .u32 a b ha hb
theorem JW (a b:Nat) (ha:a<4294967296) (hb:b<4294967296):Yb .xor .u32 a b=((a ^^^ b:Nat):Int):=HL .u32 a b ha hb
theorem uU (a b:Nat) (ha:a<18446744073709551616) (hb:b<18446744073709551616):Yb .and .u64 a b=((a &&& b:Nat):Int):=SO .u64 a b ha hb
theorem AA (a b:Nat) (ha:a<18446744073709551616) (hb:b<18446744073709551616):Yb .or .u64 a b=((a ||| b:Nat):Int):=PW .u64 a b ha hb
theorem uV (a b:Nat) (ha:a<9223372036854775808) (hb:b<9223372036854775808):Yb .and .i64 a b=((a &&& b:Nat):Int):=SO .i64 a b ha hb
theorem RQ (a b:Nat) (ha:a<9223372036854775808) (hb:b<9223372036854775808):Yb .or .i64 a b=((a ||| b:Nat):Int):=PW .i64 a b ha hb
theorem SP (k:IntKind) (a n:Nat) (hn:n≤k.bits):YT k a n=((a >>> n:Nat):Int):=by
 simp only[YT,Int.toNat_natCast,Nat.min_eq_left hn];rw[Int.fdiv_eq_ediv_of_nonneg _ (Int.le_of_lt (Int.pow_pos (by omega))),Nat.shiftRight_eq_div_pow];simp
theorem Fb (k:IntKind) (a n:Nat) (hn:n≤k.bits):YI k a n=k.wrap ((a*2 ^ n:Nat):Int):=by
 simp only[YI,Int.toNat_natCast,Nat.min_eq_left hn];simp
theorem Fc (a b:Nat):a ^^^ b=0↔a=b:=by
 constructor
 ·intro h;have h2:a ^^^ b ^^^ b=0 ^^^ b:=by rw[h]
  rwa [Nat.xor_assoc,Nat.xor_self,Nat.xor_zero,Nat.zero_xor]at h2
 ·intro h;subst h;exact Nat.xor_self a
theorem E7 (a b:Nat):a ||| b=0↔a=0∧b=0:=by
 simp
open Go.ChangeShapes Go.WideShapes Go.ChangeAt Go.RowKit
def fit (P:Program) (h:Hp):Nat→TypeId→List Value→Prop
 | 0,_,_=>False
 | k+1,t,cs=>
  match P.underlying t with
  | some .bool=>∃b,cs=[.bool b]
  | some (.int i)=>∃n,cs=[.int i n]∧(Lit.int i n).wf=true
  | some .string=>∃s,cs=[.string s]∧s.size≤reachBytes
  | some (.slice e)=>∃p len cap,cs=[.slice p len cap]∧len≤cap∧cap*P.bytesOf e≤reachBytes ∧
    (len≠0→P.cellsOf e≠0→∃b o,p=some ⟨b,o,none⟩∧b<h.size∧∀i,i<len→∃ds,ds.length=P.cellsOf e∧Xb h b (o+i*P.cellsOf e) ds∧fit P h k e ds)
  | some (.struct fs)=>cs.length=P.cellsOf t∧∀f∈fs.toList,fit P h k f.type ((cs.drop f.offset).take (P.cellsOf f.type))
  | some (.array n e)=>cs.length=P.cellsOf t∧∀i,i<n→fit P h k e ((cs.drop (i*P.cellsOf e)).take (P.cellsOf e))
  | _=>True
def gJ (P:Program) (h:Hp) (k:Nat) (t:TypeId) (v:Value):Prop:=
 match ta P t with
 | some true=>∃cs:List Value,v=.agg cs.toArray∧fit P h k t cs
 | _=>fit P h k t [v]
def fitAll (P:Program) (h:Hp):List TypeId→List Value→Prop
 | [],[]=>True
 | t :: ts,v :: vs=>(∃k,gJ P h k t v)∧fitAll P h ts vs
 | _,_=>False
theorem VO {α β:Type} {f:α→Option β}:∀{l:List α} {r:List β},l.mapM f=some r→r.length=l.length∧∀(i:Nat) (x:α) (y:β),l[i]? = some x→r[i]? = some y→f x=some y
 | [],r,h=>by
  simp only[List.mapM_nil,pure,Option.some.injEq]at h;subst h;exact⟨rfl,fun i x y hx _=>by simp at hx⟩
 | a :: l,r,h=>by
  rw[List.mapM_cons]at h
  cases ha:f a with
  | none=>rw[ha]at h;cases h
  | some b=>
   rw[ha]at h
   cases hl:l.mapM f with
   | none=>simp[hl]at h
   | some bs=>
    simp[hl]at h;subst h;obtain⟨h1,h2⟩:=VO hl;refine⟨by simp[h1],fun i x y hx hy=>?_⟩
    cases i with
    | zero=>simp at hx hy;subst hx;subst hy;exact ha
    | succ i=>simp at hx hy;exact h2 i x y hx hy
theorem Kc {w:World} {base:Nat} {a:Addr} {n:Nat} {ds:List Value} (h:w.cells? base a n=some ds):ds.length=n∧∀i (hi:i<ds.length),w.cell? (a.add i)=some ds[i]:=by
 unfold World.cells? at h;split at h
 ·obtain⟨h1,h2⟩:=VO h;rw[List.length_range]at h1;refine⟨h1,fun i hi=>h2 i i ds[i] ?_ ?_⟩
  ·rw[List.getElem?_range (by omega)]
  ·exact List.getElem?_eq_getElem hi
 ·cases h
theorem gK {w:World} {a:Addr} {i:Nat} {v:Value} (h:w.cell? (a.add i)=some v) (hi:i=0):a.spot=none:=by
 subst hi;have e:a.add 0=a:=by simp[Addr.add]
 rw[e]at h;unfold World.cell? at h;split at h
 ·split at h
  ·cases h
  ·rename_i hs;simpa using hs
 ·cases h
theorem TQ {H:Type} {P:Program} {q:Nat→Bool}:∀(ts:List TypeId) (ds:List (DataW H)),(DataW.weightsEach P ts ds).all q=true→∀(i:Nat) (t:TypeId) (d:DataW H),ts[i]? = some t→ds[i]? = some d→(d.weights P t).all q=true
 | [],_,_,i,t,d,ht,_=>by simp at ht
 | t :: ts,[],_,i,t',d,_,hd=>by simp at hd
 | t :: ts,d :: ds,h,i,t',d',ht,hd=>by
  simp only[DataW.weightsEach,List.all_append,Bool.and_eq_true]at h
  cases i with
  | zero=>simp at ht hd;subst ht;subst hd;exact h.1
  | succ i=>simp at ht hd;exact TQ ts ds h.2 i t' d' ht hd
theorem Wf {H:Type} {P:Program} {e:TypeId} {q:Nat→Bool}:∀(ds:List (DataW H)),(DataW.weightsAll P e ds).all q=true→∀(i:Nat) (d:DataW H),ds[i]? = some d→(d.weights P e).all q=true
 | [],_,i,d,hd=>by simp at hd
 | d :: ds,h,i,d',hd=>by
  simp only[DataW.weightsAll,List.all_append,Bool.and_eq_true]at h
  cases i with
  | zero=>simp at hd;subst hd;exact h.1
  | succ i=>simp at hd;exact Wf ds h.2 i d' hd
theorem WS {H:Type} {enc:TypeId × Value→H} {P:Program} {w:World}:∀(k:Nat) (t:TypeId) (cs:List Value) (d:DataW H) (ps:List MemPlace),
  DataW.trod enc P w 0 (fun _=>true) true k t cs=some (d,ps)→(d.weights P t).all (· ≤ reachBytes)=true→fit P w.heap k t cs
 | 0,t,cs,d,ps,h,_=>by simp[DataW.trod]at h
 | k+1,t,cs,d,ps,h,hw=>by
  unfold DataW.trod at h;unfold fit;split at h
  ·rename_i hu;rw[hu];exact⟨_,rfl⟩
  ·rename_i i i' n hu;rw[hu];split at h
   ·rename_i hc;obtain⟨rfl,hc⟩:=hc;exact⟨_,rfl,hc⟩
   ·cases h
  ·rename_i hu;rw[hu];trivial
  ·rename_i s hu;rw[hu];split at h
   ·simp only[Option.some.injEq,Prod.mk.injEq]at h;obtain⟨rfl,_⟩:=h;refine⟨_,rfl,?_⟩
    simpa [DataW.weights] using hw
   ·cases h
  ·rename_i hu;rw[hu];trivial
  ·rename_i hu;rw[hu];trivial
  ·rename_i e hu;rw[hu];exact⟨_,_,_,rfl,Nat.le_refl _,by simp,fun h=>(h rfl).elim⟩
  ·rename_i e a len cap hu;rw[hu];split at h
   ·rename_i PQ;simp only[if_true]at h
    cases he:((List.range len).mapM fun i=>(w.cells? 0 (a.add (i*P.cellsOf e)) (P.cellsOf e)).bind (DataW.trod enc P w 0 (fun _=>true) true k e)) with
    | none=>rw[he]at h;cases h
    | some elems=>
     rw[he]at h;simp only[Option.bind_some]at h
     cases hr:((List.range (cap-len)).mapM fun j=>(w.cells? 0 (a.add ((len+j)*P.cellsOf e)) (P.cellsOf e)).bind (DataW.trod enc P w 0 (fun _=>true) true k e)) with
     | none=>rw[hr]at h;cases h
     | some rest=>
      rw[hr]at h;simp only[Option.map_some,Option.some.injEq,Prod.mk.injEq]at h;obtain⟨rfl,_⟩:=h;obtain⟨l1,g1⟩:=VO he;obtain⟨l2,_⟩:=VO hr;rw[List.length_range]at l1 l2;simp only[DataW.weights,hu,List.all_cons,List.all_append,Bool.and_eq_true,List.length_map,decide_eq_true_eq]at hw;refine⟨_,_,_,rfl,PQ.2.1,?_,fun hlen hce=>?_⟩
      ·have:elems.length+rest.length=cap:=by omega
       rw[←this];exact hw.1
      ·have Zej:∀i,i<len→∃ds x,w.cells? 0 (a.add (i*P.cellsOf e)) (P.cellsOf e)=some ds∧elems[i]? = some x∧DataW.trod enc P w 0 (fun _=>true) true k e ds=some x:=by
        intro i hi;have hx:elems[i]? = some elems[i]:=List.getElem?_eq_getElem (by omega);have:=g1 i i elems[i] (by rw[List.getElem?_range hi]) hx
        cases hc:w.cells? 0 (a.add (i*P.cellsOf e)) (P.cellsOf e) with
        | none=>rw[hc]at this;cases this
        | some ds=>rw[hc]at this;exact⟨ds,_,rfl,hx,this⟩
       obtain⟨ds0,x0,dx,_,_⟩:=Zej 0 (by omega);obtain⟨q1,q2⟩:=Kc dx;have e0:a.add (0*P.cellsOf e)=a:=by simp[Addr.add]
       rw[e0]at q2;have Rp:a.spot=none:=gK (q2 0 (by omega)) rfl;have ZaP:w.cell? a=some ds0[0]:=by have:=q2 0 (by omega);simpa [Addr.add] using this
       have ZD:a.block<w.heap.size:=Up (h:=w.heap) (p:=a) (v:=ds0[0]) ZaP;refine⟨a.block,a.off,?_,ZD,fun i hi=>?_⟩
       ·obtain⟨b,o,s⟩:=a;simp only at Rp;subst Rp;rfl
       ·obtain⟨ds,x,hc,hx,ht⟩:=Zej i hi;obtain⟨r1,r2⟩:=Kc hc;refine⟨ds,r1,fun j hj=>?_,?_⟩
        ·have:=r2 j hj;rw[SL a _ Rp,Y1]at this;exact this
        ·refine WS k e ds x.1 x.2 ht ?_;exact Wf _ hw.2.1 i x.1 (by rw[List.getElem?_map,hx];rfl)
   ·cases h
  ·rename_i cs _ _ fs hu;rw[hu];split at h
   ·rename_i hlen
    cases hm:(fs.toList.mapM fun f=>DataW.trod enc P w 0 (fun _=>true) true k f.type ((cs.drop f.offset).take (P.cellsOf f.type))) with
    | none=>rw[hm]at h;cases h
    | some xs=>
     rw[hm]at h;simp only[Option.map_some,Option.some.injEq,Prod.mk.injEq]at h;obtain⟨rfl,_⟩:=h;obtain⟨l1,g1⟩:=VO hm;refine⟨hlen,fun f hf=>?_⟩;obtain⟨i,hi,EH⟩:=List.mem_iff_getElem.1 hf;have hx:xs[i]? = some xs[i]:=List.getElem?_eq_getElem (by omega);have Zek:fs.toList[i]? = some f:=by rw[List.getElem?_eq_getElem hi,EH]
     refine WS k _ _ xs[i].1 xs[i].2 (g1 i f xs[i] Zek hx) ?_;simp only[DataW.weights,hu]at hw;exact TQ _ _ hw i f.type xs[i].1 (by rw[List.getElem?_map,Zek];rfl) (by rw[List.getElem?_map,hx];rfl)
   ·cases h
  ·rename_i cs _ _ n e hu;rw[hu];split at h
   ·rename_i hlen
    cases hm:((List.range n).mapM fun i=>DataW.trod enc P w 0 (fun _=>true) true k e ((cs.drop (i*P.cellsOf e)).take (P.cellsOf e))) with
    | none=>rw[hm]at h;cases h
    | some xs=>
     rw[hm]at h;simp only[Option.map_some,Option.some.injEq,Prod.mk.injEq]at h;obtain⟨rfl,_⟩:=h;obtain⟨l1,g1⟩:=VO hm;rw[List.length_range]at l1;refine⟨hlen,fun i hi=>?_⟩;have hx:xs[i]? = some xs[i]:=List.getElem?_eq_getElem (by omega);refine WS k _ _ xs[i].1 xs[i].2 (g1 i i xs[i] (by rw[List.getElem?_range hi]) hx) ?_;simp only[DataW.weights,hu]at hw;exact Wf _ hw i xs[i].1 (by rw[List.getElem?_map,hx];rfl)
   ·cases h
  all_goals first|(cases h;done)|(rename_i hu;rw[hu];trivial)
theorem uW {P:Program} {w:World} {r:Reach} {base:Nat} {t:TypeId} {cs:Array Value} (ha:ta P t=some false) (h:Value.okWide P w r base t (.agg cs)):False:=by
 unfold ta at ha;unfold Value.okWide at h
 cases hu:P.underlying t with
 | none=>rw[hu]at ha;cases ha
 | some d=>
  rw[hu]at ha h
  cases d<;>simp at ha<;>simp[Cell.okWide,Cell.ok,hu]at h
theorem uX {H:Type} {enc:TypeId × Value→H} {P:Program} {w:World} {r:Reach} {base:Nat} {t:TypeId} {v:Value} {d:DataW H} {ps:List MemPlace}
  (Bv:(ta P t).isSome=true) (J8:Value.okWide P w r base t v) (h:DataW.Trod enc P w 0 (fun _=>true) true t v d ps) (hw:(d.weights P t).all (· ≤ reachBytes)=true):∃k,gJ P w.heap k t v:=by
 obtain⟨k,hk⟩:=h;have hf:=WS k t _ d ps hk hw;refine⟨k,?_⟩;unfold gJ
 cases ha:ta P t with
 | none=>rw[ha]at Bv;cases Bv
 | some b=>
  cases b with
  | true=>
   unfold ta at ha;unfold Value.okWide at J8
   cases hu:P.underlying t with
   | none=>rw[hu]at ha;cases ha
   | some d'=>
    rw[hu]at ha J8;have:∃cs,v=.agg cs:=by
     cases d'<;>simp at ha<;>(obtain⟨cs,hv,_⟩:=J8;exact⟨cs,hv⟩)
    obtain⟨cs,rfl⟩:=this;exact⟨cs.toList,by simp,hf⟩
  | false=>
   have:v.cells.toList=[v]:=by
    cases v with
    | agg cs=>exact (uW ha J8).elim
    | _=>rfl
   rw[this]at hf;exact hf
theorem HM {H:Type} {enc:TypeId × Value→H} {P:Program} {w:World} {base:Nat}:∀(ts:List TypeId) (vs:List Value) (ds:List (DataW H)) (ps:List MemPlace),
  ts.all (fun t=>(ta P t).isSome)=true→(∀(j:Nat) t v,ts[j]? = some t→vs[j]? = some v→Value.okWide P w .any base t v)→DataW.TrodAll enc P w 0 (fun _=>true) true ts vs ds ps →
  (DataW.weightsEach P ts ds).all (· ≤ reachBytes)=true→fitAll P w.heap ts vs
 | [],vs,ds,ps,_,_,h,_=>by
  obtain⟨rfl,rfl,rfl⟩:=trodAll_nil h;trivial
 | t :: ts,vs,ds,ps,ha,hv,h,hw=>by
  obtain⟨v,zf,d,ds',p,q,rfl,rfl,rfl,h1,h2⟩:=trodAll_cons h;simp only[List.all_cons,Bool.and_eq_true]at ha;simp only[DataW.weightsEach,List.all_append,Bool.and_eq_true]at hw;exact⟨uX ha.1 (hv 0 t v rfl rfl) h1 hw.1,HM ts zf ds' q ha.2 (fun j t v ht E8=>hv (j+1) t v ht E8) h2 hw.2⟩
theorem Rq {H:Type} {enc:TypeId × Value→H} {P:Program} (hl:laidOutB P=true) {W W':World} (hb:Below W.heap.size W W'):∀(ts:List TypeId) (vs:List Value) (ds:List (DataW H)) (ps:List MemPlace),
  ts.all (fun t=>P.readableRec t&&decide (t<P.types.size))=true→DataW.TrodAll enc P W 0 (fun _=>true) true ts vs ds ps→(∀x∈ps,x.block<W.heap.size) →
  DataW.TrodAll enc P W' 0 (fun b=>decide (b<W.heap.size)) true ts vs ds ps
 | [],vs,ds,ps,_,h,_=>by
  obtain⟨rfl,rfl,rfl⟩:=trodAll_nil h;rfl
 | t :: ts,vs,ds,ps,ha,h,ZD=>by
  obtain⟨v,zf,d,ds',p,q,rfl,rfl,rfl,h1,h2⟩:=trodAll_cons h;simp only[List.all_cons,Bool.and_eq_true,decide_eq_true_eq]at ha;exact⟨p,q,Below.trod hl ha.1.1 ha.1.2 h1 hb (fun x hx=>ZD x (by simp[hx])),Rq hl hb ts zf ds' q ha.2 h2 (fun x hx=>ZD x (by simp[hx])),rfl⟩
theorem Sb {H:Type} {enc:TypeId × Value→H} {P:Program} {w:World} {b:Nat} {sp:Nat→Bool} {hd:Bool}:∀(ts:List TypeId) (vs:List Value) (ds:List (DataW H)) (ps:List MemPlace),DataW.TrodAll enc P w b sp hd ts vs ds ps→ds.length=ts.length
 | [],vs,ds,ps,h=>by obtain⟨rfl,rfl,rfl⟩:=trodAll_nil h;rfl
 | t :: ts,vs,ds,ps,h=>by
  obtain⟨v,zf,d,ds',p,q,rfl,rfl,rfl,h1,h2⟩:=trodAll_cons h;simp[Sb ts zf ds' q h2]
theorem nu {W W':World} {h':Hp} (hs:Vl W W' h') (hb:Zg W.heap.size W.heap h'):Below W.heap.size W W':=
 ⟨hs.os,hs.tape,hs.output,by rw[hs.heap];exact hb.size,fun k hk=>by rw[hs.heap];exact hb.block k hk⟩
theorem nw {P:Program} {rest:List (List Char)} (h:behindMainWord (wordsSigns P.initOrder.toList) = "cut".toList :: rest):P.make=some .cut:=by
 unfold Program.make;rw[h];simp only;rw[if_neg (by decide),if_pos (by rfl)]
theorem HN (rest:List (List Char)):stripLifts liftWords ("cut".toList :: rest)=([], "cut".toList :: rest):=by rfl
theorem gL {P:Program} {rest:List (List Char)} (h:behindMainWord (wordsSigns P.initOrder.toList) = "cut".toList :: rest):P.liftsFinal=false:=by
 unfold Program.liftsFinal Program.headLifts;rw[h,HN];rfl
theorem gM {P:Program} {rest:List (List Char)} (h:behindMainWord (wordsSigns P.initOrder.toList) = "cut".toList :: rest) (h1:P.laysLater=false) (h2:P.bearsReflect=false) (h3:P.doorFits []=true):P.mayEnter=true:=by
 unfold Program.mayEnter;rw[h];simp only[HN,h1,h2,h3];rw[Bool.or_eq_true];exact .inr rfl
theorem gN {P:Program} {L:List Char} (h:P.initOrder=String.ofList L) (h2:((behindMainWord (wordsSigns L)).head? == some "cut".toList)=true):∃rest,behindMainWord (wordsSigns P.initOrder.toList) = "cut".toList :: rest:=by
 rw[h,String.toList_ofList]
 revert h2
 cases behindMainWord (wordsSigns L) with
 | nil=>intro h;cases h
 | cons a l=>
  intro h;have h':a = "cut".toList:=by
   have:=eq_of_beq h
   simpa using this
  exact⟨l,by rw[h']⟩
end Go.V
