/- V1: a small calculus of weakest preconditions on heaps (arrays of objects), over the model's own rules: what draws is 'for all', and a function's frame is a function of slots. -/
import Derived.Calls
import Derived.OrdersHeld
import Derived.Still
import Derived.Tactics
import Derived.Laws.Sem
import Derived.KernelRfl
import Derived.IntWalk
import Derived.Laws.Strings
import Derived.WalkKit
import Derived.ProofKit
import Derived.OpenShut
import Derived.SizedLaws
import Derived.JoinedCond
import Derived.Deep.CondSized
import Derived.Carry
namespace Go.V
theorem X2 {α:Type} (x:α):∃y,y=x:=⟨x,rfl⟩
abbrev Env:=Nat→Value
def Ot (F:Env) (d:Nat) (v:Value):Env:=fun t=>if t=d then v else F t
def Zi (F:Env):Option Nat→Value→Env
 | none,_=>F
 | some d,v=>Ot F d v
def ev (F:Env):Operand→Value
 | .tmp t=>F t
 | .const v=>v
 | .global g=>.pointer (some ⟨g,0,none⟩)
 | .func f=>.func (.func f) #[] #[]
def Qp:List Value→Nat→Env
 | [],_=>fun _=>undef
 | v :: l,k=>Ot (Qp l (k+1)) k v
def env (a:Act):Env:=fun t=>a.tmps.getD t undef
theorem Ur (a:Act):a.eval=ev (env a):=by
 funext x;cases x<;>rfl
theorem JE (a:Act) (dst:Option Nat) (v:Value) (h:∀d,dst=some d→d<a.tmps.size):env (a.put dst v)=Zi (env a) dst v:=by
 cases dst with
 | none=>rfl
 | some d=>
  funext t
  have hd:=h d rfl
  simp only[env,Act.put,Zi,Ot,Array.getD_eq_getD_getElem?,Array.getElem?_setIfInBounds]
  by_cases MQ:d=t
  ·subst MQ;simp[hd]
  ·rw[if_neg MQ,if_neg (fun h=>MQ h.symm)]
theorem Xy (a:Act) (dst:Option Nat) (v:Value):(a.put dst v).tmps.size=a.tmps.size:=by
 cases dst<;>simp[Act.put]
abbrev Hp:=Array Obj
structure YE (T:World) (w:World) (h:Hp):Prop where
 heap:w.heap=h
 tape:w.tape=T.tape
 os:w.os=T.os
 output:w.output=T.output
def hc (h:Hp) (a:Addr):Option Value:=
 match h[a.block]? with
 | some (.cells c _ _)=>if a.spot.isSome then none else c[a.off]?
 | _=>none
def ZN (h:Hp) (r:Nat):Option (TypeId × Nat):=
 match h[r]? with
 | some (.cells c elem _)=>some (elem,c.size)
 | _=>none
def Pv (h:Hp) (a:Addr):Bool:=
 match h[a.block]? with
 | some (.cells _ _ (lo,hi))=>lo≤a.off&&a.off<hi
 | _=>false
def VO (h:Hp) (a:Addr) (v:Value):Hp:=
 h.modify a.block fun
  | .cells c elem frozen=>.cells (if a.spot.isSome then c else c.setIfInBounds a.off v) elem frozen
  | o=>o
def Xz (h:Hp) (a:Addr) (n:Nat):Hp:=
 if n=0 then h else
 h.modify a.block fun
  | .cells c elem (lo,hi)=>.cells c elem (if lo == hi then (a.off,a.off+n) else (min lo a.off,max hi (a.off+n)))
  | o=>o
def JF:Obj→Bool
 | .cells .. => true
 | _=>false
def YW:Value→Bool
 | .agg _|.tuple _=>false
 | _=>true
def hw {α:Type} (P:Program):Sem α→(α→Hp→Prop)→Hp→Prop
 | .pure a,Q,h=>Q a h
 | .load _ a k,Q,h=>∃v,hc h a=some v∧hw P (k v) Q h
 | .store _ a v k,Q,h=>YW v=true∧(∃u,hc h a=some u)∧Pv h a=false∧hw P k Q (VO h a v)
 | .new o k,Q,h=>hw P (k h.size) Q (h.push o)
 | .shape r k,Q,h=>hw P (k (ZN h r)) Q h
 | .freeze a n k,Q,h=>hw P k Q (Xz h a n)
 | .frozen a k,Q,h=>hw P (k (Pv h a)) Q h
 | .getObj r k,Q,h=>∃o,h[r]? = some o∧JF o=false∧hw P (k o) Q h
 | .setObj r o k,Q,h=>(∃o',h[r]? = some o'∧JF o'=false)∧hw P k Q (h.setIfInBounds r o)
 | .choose q k,Q,h=>if q.forced then hw P (k 0) Q h else ∀t,hw P (k (q.cut t)) Q h
 | .sys _ _,_,_=>False
 | .program k,Q,h=>hw P (k P) Q h
 | .mark _ k,Q,h=>hw P k Q h
 | .halt _,_,_=>False
theorem TT {α:Type} {P:Program} {T:World}:∀(s:Sem α) (Q:α→Hp→Prop) (h:Hp),hw P s Q h→∀w,YE T w h →
  ∃a w' h',s.run P w=.ok a w'∧YE T w' h'∧Q a h':=by
 intro s
 induction s with
 | pure a=>intro Q h H w hs;exact⟨a,w,h,rfl,hs,H⟩
 | load m a k ih=>
  intro Q h H w hs
  obtain⟨v,hv,H⟩:=H
  obtain⟨a',w',h',hr,r⟩:=ih v Q h H w hs
  refine⟨a',w',h',?_,r⟩
  have:w.cell? a=some v:=by rw[World.cell?,hs.heap];exact hv
  rw[Sem.run,this];exact hr
 | store m a v k ih=>
  intro Q h H w hs
  obtain⟨h1,⟨u,h2⟩,h3,H⟩:=H
  have QT:YE T (w.setCell a v) (VO h a v):=⟨by simp only[World.setCell,VO,hs.heap];rfl,hs.tape,hs.os,hs.output⟩
  obtain⟨a',w',h',hr,r⟩:=ih Q _ H _ QT
  refine⟨a',w',h',?_,r⟩
  have e1:w.cell? a=some u:=by rw[World.cell?,hs.heap];exact h2
  have e2:w.frozen? a=false:=by rw[World.frozen?,hs.heap];exact h3
  cases v<;>first|(simp[YW]at h1;done)|(simp only[Sem.run,e1,e2,Bool.false_eq_true,if_false];exact hr)
 | new o k ih=>
  intro Q h H w hs
  have QT:YE T { w with heap:=w.heap.push o } (h.push o):=⟨by simp only[hs.heap],hs.tape,hs.os,hs.output⟩
  have e:w.heap.size=h.size:=by rw[hs.heap]
  obtain⟨a',w',h',hr,r⟩:=ih h.size Q _ H _ QT
  refine⟨a',w',h',?_,r⟩
  rw[Sem.run,e];exact hr
 | shape r k ih=>
  intro Q h H w hs
  obtain⟨a',w',h',hr,r'⟩:=ih _ Q h H w hs
  refine⟨a',w',h',?_,r'⟩
  have:w.shape? r=ZN h r:=by rw[World.shape?,hs.heap];rfl
  rw[Sem.run,this];exact hr
 | freeze a n k ih=>
  intro Q h H w hs
  have QT:YE T (w.freeze a n) (Xz h a n):=by
   unfold World.freeze Xz
   split
   ·exact hs
   ·exact⟨by simp only[hs.heap];rfl,hs.tape,hs.os,hs.output⟩
  obtain⟨a',w',h',hr,r'⟩:=ih Q _ H _ QT
  exact⟨a',w',h',by rw[Sem.run];exact hr,r'⟩
 | frozen a k ih=>
  intro Q h H w hs
  obtain⟨a',w',h',hr,r'⟩:=ih _ Q h H w hs
  refine⟨a',w',h',?_,r'⟩
  have:w.frozen? a=Pv h a:=by rw[World.frozen?,hs.heap];rfl
  rw[Sem.run,this];exact hr
 | getObj r k ih=>
  intro Q h H w hs
  obtain⟨o,ho,hc,H⟩:=H
  obtain⟨a',w',h',hr,r'⟩:=ih o Q h H w hs
  refine⟨a',w',h',?_,r'⟩
  have e:w.heap[r]? = some o:=by rw[hs.heap];exact ho
  simp only[Sem.run,e]
  cases o<;>first|(simp[JF]at hc;done)|exact hr
 | setObj r o k ih=>
  intro Q h H w hs
  obtain⟨⟨o',ho,hc⟩,H⟩:=H
  have QT:YE T { w with heap:=w.heap.setIfInBounds r o } (h.setIfInBounds r o):=⟨by simp only[hs.heap],hs.tape,hs.os,hs.output⟩
  obtain⟨a',w',h',hr,r'⟩:=ih Q _ H _ QT
  refine⟨a',w',h',?_,r'⟩
  have e:w.heap[r]? = some o':=by rw[hs.heap];exact ho
  simp only[Sem.run,e]
  cases o'<;>first|(simp[JF]at hc;done)|exact hr
 | choose q k ih=>
  intro Q h H w hs
  simp only[hw]at H
  split at H
  ·rename_i hq
   obtain⟨a',w',h',hr,r'⟩:=ih _ Q h H w hs
   exact⟨a',w',h',by rw[Sem.run,if_pos hq];exact hr,r'⟩
  ·rename_i hq
   have QT:YE T { w with drawn:=w.drawn+1 } h:=⟨hs.heap,hs.tape,hs.os,hs.output⟩
   obtain⟨a',w',h',hr,r'⟩:=ih _ Q h (H (w.tape w.drawn q)) _ QT
   exact⟨a',w',h',by rw[Sem.run,if_neg hq];exact hr,r'⟩
 | sys c k ih=>intro Q h H;exact H.elim
 | program k ih=>
  intro Q h H w hs
  obtain⟨a',w',h',hr,r'⟩:=ih _ Q h H w hs
  exact⟨a',w',h',by rw[Sem.run];exact hr,r'⟩
 | mark m k ih=>
  intro Q h H w hs
  obtain⟨a',w',h',hr,r'⟩:=ih Q h H w hs
  exact⟨a',w',h',by rw[Sem.run];exact hr,r'⟩
 | halt x=>intro Q h H;exact H.elim
theorem Za {α β:Type} {P:Program} (s:Sem α) (f:α→Sem β) (Q:β→Hp→Prop):∀h,hw P (s >>= f) Q h=hw P s (fun a h'=>hw P (f a) Q h') h:=by
 show ∀h,hw P (s.bind f) Q h=_
 induction s with
 | pure a=>intro h;rfl
 | load m a k ih=>intro h;simp only[Sem.bind,hw,ih]
 | store m a v k ih=>intro h;simp only[Sem.bind,hw,ih]
 | new o k ih=>intro h;simp only[Sem.bind,hw,ih]
 | shape r k ih=>intro h;simp only[Sem.bind,hw,ih]
 | freeze a n k ih=>intro h;simp only[Sem.bind,hw,ih]
 | frozen a k ih=>intro h;simp only[Sem.bind,hw,ih]
 | getObj r k ih=>intro h;simp only[Sem.bind,hw,ih]
 | setObj r o k ih=>intro h;simp only[Sem.bind,hw,ih]
 | choose q k ih=>intro h;simp only[Sem.bind,hw,ih]
 | sys c k ih=>intro h;simp only[Sem.bind,hw]
 | program k ih=>intro h;simp only[Sem.bind,hw,ih]
 | mark m k ih=>intro h;simp only[Sem.bind,hw,ih]
 | halt x=>intro h;rfl
theorem Vu {α:Type} {P:Program} {Q Q':α→Hp→Prop} (hq:∀a h,Q a h→Q' a h):∀(s:Sem α) (h:Hp),hw P s Q h→hw P s Q' h:=by
 intro s
 induction s with
 | pure a=>intro h H;exact hq _ _ H
 | load m a k ih=>intro h H;obtain⟨v,hv,H⟩:=H;exact⟨v,hv,ih _ _ H⟩
 | store m a v k ih=>intro h H;obtain⟨h1,h2,h3,H⟩:=H;exact⟨h1,h2,h3,ih _ H⟩
 | new o k ih=>intro h H;exact ih _ _ H
 | shape r k ih=>intro h H;exact ih _ _ H
 | freeze a n k ih=>intro h H;exact ih _ H
 | frozen a k ih=>intro h H;exact ih _ _ H
 | getObj r k ih=>intro h H;obtain⟨o,h1,h2,H⟩:=H;exact⟨o,h1,h2,ih _ _ H⟩
 | setObj r o k ih=>intro h H;obtain⟨h1,H⟩:=H;exact⟨h1,ih _ H⟩
 | choose q k ih=>
  intro h H
  simp only[hw]at H ⊢
  split at H
  ·rename_i hf;rw[if_pos hf];exact ih _ _ H
  ·rename_i hf;rw[if_neg hf];exact fun t=>ih _ _ (H t)
 | sys c k ih=>intro h H;exact H
 | program k ih=>intro h H;exact ih _ _ H
 | mark m k ih=>intro h H;exact ih _ H
 | halt x=>intro h H;exact H
def Ze (P:Program) (T:World) (f:FuncId) (args:Array Value) (h:Hp) (Q:Value→Hp→Prop):Prop:=
 ∀w,YE T w h→Calls P f args w fun e w'=>∃v h',e=.returned v∧YE T w' h'∧Q v h'
theorem Ze.mono {P:Program} {T:World} {f:FuncId} {args:Array Value} {h:Hp} {Q Q':Value→Hp→Prop} (H:Ze P T f args h Q)
  (hq:∀v h',Q v h'→Q' v h'):Ze P T f args h Q':=
 fun w hs=>(H w hs).mono fun _ _ ⟨v,h',he,QT,q⟩=>⟨v,h',he,QT,hq _ _ q⟩
def ZQ (P:Program) (T:World) (K:Value→Hp→Prop):Next→Hp→Prop
 | .value v,h=>K v h
 | .skip,h=>K undef h
 | .enter f args,h=>Ze P T f args h K
 | _,_=>False
def Us (P:Program) (T:World) (o:Oper) (K:Value→Hp→Prop) (F:Env) (h:Hp):Prop:=
 hw P (execOp (ev F) o) (ZQ P T K) h
theorem JL {P:Program} {T:World} {K K':Value→Hp→Prop} (hk:∀v h,K v h→K' v h):∀(x:Next) (h:Hp),ZQ P T K x h→ZQ P T K' x h:=by
 intro x h H
 cases x<;>simp only[ZQ]at H ⊢<;>first|exact hk _ _ H|exact H.mono hk
theorem XA {P:Program} {T:World} {o:Oper} {K K':Value→Hp→Prop} {F:Env} {h:Hp} (hk:∀v h,K v h→K' v h) (H:Us P T o K F h):Us P T o K' F h:=
 Vu (JL hk) _ _ H
theorem QE {P:Program} {T:World} {o:Oper} {K:Value→Hp→Prop} {F:Env} {h:Hp} (H:Us P T o K F h) {a:Act} {w:World} (hF:env a=F) (hs:YE T w h)
  {next:Act→World→Prop} {Q:Exit→Act→World→Prop} (hk:∀v w' h',YE T w' h'→K v h'→next (a.put o.dst v) w'):o.wp P a w next Q:=by
 obtain⟨x,w',h',hr,QT,hx⟩:=TT _ _ _ H w hs
 unfold Oper.wp
 rw[Ur,hF,hr]
 cases x<;>simp only[ZQ]at hx
 case value v=>exact hk _ _ _ QT hx
 case skip=>exact hk _ _ _ QT hx
 case enter f args=>
  simp only[Oper.upon]
  exact (hx w' QT).mono fun e HK ⟨v,X3,he,MR,q⟩=>by subst he;exact hk _ _ _ MR q
def Z8 (ops:Array Oper) (F:Env) (j:Nat):Option Bool:=
 match (ops[j]?).bind (·.dst) with
 | some t=>match F t with
  | .bool b=>some b
  | _=>none
 | none=>none
def Zh (ops:Array Oper) (o:Oper) (F:Env):Bool:=Region.wanted o (Z8 ops F)
def TU (n:Nat) (o:Oper):Bool:=match o.dst with|some d=>Nat.blt d n|none=>true
def Jh (n:Nat) (ops:Array Oper):Bool:=ops.toList.all (TU n)
theorem Xn {n:Nat} {o:Oper} (h:TU n o=true):∀d,o.dst=some d→d<n:=by
 intro d hd
 unfold TU at h
 rw[hd]at h
 exact Nat.blt_eq.mp h
theorem Ji {n:Nat} {ops:Array Oper} (ZW:Jh n ops=true) (a:Act) (hn:a.tmps.size=n):yielded ops a.tmps=Z8 ops (env a):=by
 funext j
 unfold yielded Z8
 cases hj:ops[j]? with
 | none=>rfl
 | some o=>
  simp only[Option.bind_some]
  cases hd:o.dst with
  | none=>rfl
  | some d=>
   have Zs:d<a.tmps.size:=by
    rw[hn]
    have hm:o∈ops.toList:=by
     have:=Array.mem_of_getElem? hj
     simpa using this
    exact Xn (List.all_eq_true.1 ZW o hm) d hd
   simp only[Option.bind_some]
   rw[Array.getElem?_eq_getElem Zs]
   have:env a d=a.tmps[d]:=by simp[env,Zs]
   rw[this]
   cases a.tmps[d]<;>rfl
def VP (P:Program) (T:World) (ops:Array Oper) (N:Env→Hp→Prop):List Oper→Env→Hp→Prop
 | [],F,h=>N F h
 | o :: l,F,h=>
  if Zh ops o F then Us P T o (fun v h'=>VP P T ops N l (Zi F o.dst v) h') F h
  else VP P T ops N l (Zi F o.dst undef) h
def Pw (n:Nat) (T:World) (N:Env→Hp→Prop) (X:Nat→Env→Hp→Prop) (R:Env→Hp→Prop) (e:Exit) (a:Act) (w:World):Prop:=
 a.tmps.size=n∧a.defers=[]∧∃h,YE T w h∧match e with
  | .normal=>N (env a) h
  | .exit j=>X j (env a) h
  | .ret=>R (env a) h
  | _=>False
def VS (P:Program) (n:Nat) (T:World) (c:Code) (N:Env→Hp→Prop) (X:Nat→Env→Hp→Prop) (R:Env→Hp→Prop) (F:Env) (h:Hp):Prop:=
 ∀a w,a.tmps.size=n→a.defers=[]→env a=F→YE T w h→c.wp P (Pw n T N X R) a w
section
variable {P:Program} {n:Nat} {T:World} {N:Env→Hp→Prop} {X:Nat→Env→Hp→Prop} {R:Env→Hp→Prop} {F:Env} {h:Hp}
theorem VS.mono {c:Code} {N':Env→Hp→Prop} {X':Nat→Env→Hp→Prop} {R':Env→Hp→Prop} (H:VS P n T c N X R F h)
  (hN:∀F h,N F h→N' F h) (hX:∀j F h,X j F h→X' j F h) (hR:∀F h,R F h→R' F h):VS P n T c N' X' R' F h:=by
 intro a w h1 h2 h3 h4
 refine Code.wp_mono (fun e a w ⟨q1,q2,h,q3,q4⟩=>⟨q1,q2,h,q3,?_⟩) (H a w h1 h2 h3 h4)
 cases e<;>simp only at q4 ⊢<;>first|exact hN _ _ q4|exact hX _ _ _ q4|exact hR _ _ q4
theorem VS.seq {c d:Code} (H:VS P n T c (fun F h=>VS P n T d N X R F h) X R F h):VS P n T (.seq c d) N X R F h:=by
 intro a w h1 h2 h3 h4
 refine wp_seq (Code.wp_mono (fun e a w ⟨q1,q2,h,q3,q4⟩=>?_) (H a w h1 h2 h3 h4))
 cases e with
 | normal=>exact q4 a w q1 q2 rfl q3
 | exit j=>exact⟨q1,q2,h,q3,q4⟩
 | ret=>exact⟨q1,q2,h,q3,q4⟩
 | _=>exact q4.elim
theorem VS.skip (H:N F h):VS P n T .skip N X R F h:=by
 intro a w h1 h2 h3 h4
 exact wp_skip ⟨h1,h2,h,h4,by rw[h3];exact H⟩
theorem VS.ret (H:R F h):VS P n T .ret N X R F h:=by
 intro a w h1 h2 h3 h4
 exact wp_ret ⟨h1,h2,h,h4,by rw[h3];exact H⟩
theorem VS.exit {j:Nat} (H:X j F h):VS P n T (.exit j) N X R F h:=by
 intro a w h1 h2 h3 h4
 exact wp_exit ⟨h1,h2,h,h4,by rw[h3];exact H⟩
theorem VS.block {j:Nat} {c:Code} (H:VS P n T c N (fun i F h=>if i=j then N F h else X i F h) R F h):VS P n T (.block j c) N X R F h:=by
 intro a w h1 h2 h3 h4
 refine wp_block (Code.wp_mono (fun e a w ⟨q1,q2,h,q3,q4⟩=>?_) (H a w h1 h2 h3 h4))
 cases e with
 | normal=>exact⟨q1,q2,h,q3,q4⟩
 | exit i=>
  simp only[Exit.inBlock]
  simp only at q4
  split
  ·rename_i MS;rw[if_pos MS]at q4;exact⟨q1,q2,h,q3,q4⟩
  ·rename_i MS;rw[if_neg MS]at q4;exact⟨q1,q2,h,q3,q4⟩
 | ret=>exact⟨q1,q2,h,q3,q4⟩
 | _=>exact q4.elim
theorem VS.cond {c:Operand} {x y:Code} {b:Bool} (hc:ev F c=.bool b) (ht:b=true→VS P n T x N X R F h) (hf:b=false→VS P n T y N X R F h) :
  VS P n T (.cond c x y) N X R F h:=by
 intro a w h1 h2 h3 h4
 refine wp_cond_split (t:=b) (by rw[Ur,h3];exact hc) (fun hb=>ht hb a w h1 h2 h3 h4) (fun hb=>hf hb a w h1 h2 h3 h4)
theorem VS.loop {c:Code} (I:Env→Hp→Prop) (μ:Env→Hp→Nat) (h0:I F h)
  (round:∀F h,I F h→VS P n T c (fun F' h'=>I F' h'∧μ F' h'<μ F h) X R F h):VS P n T (.loop c) N X R F h:=by
 intro a w h1 h2 h3 h4
 refine wp_loop (fun a w=>a.tmps.size=n∧a.defers=[]∧YE T w w.heap∧I (env a) w.heap) (fun a w=>μ (env a) w.heap)
  ⟨h1,h2,by rw[h4.heap];exact h4,by rw[h3,h4.heap];exact h0⟩ ?_
 intro a w ⟨q1,q2,q3,q4⟩
 refine Code.wp_mono (fun e a' w' ⟨p1,p2,h',p3,p4⟩=>?_) (round (env a) w.heap q4 a w q1 q2 rfl q3)
 cases e with
 | normal=>
  have e:=p3.heap
  subst e
  exact⟨⟨p1,p2,p3,p4.1⟩,p4.2⟩
 | exit j=>exact⟨p1,p2,h',p3,p4⟩
 | ret=>exact⟨p1,p2,h',p3,p4⟩
 | _=>exact p4.elim
theorem Yr {ops:Array Oper} (ZW:Jh n ops=true):∀(l:List Oper) (F:Env) (h:Hp),(∀o∈l,o∈ops.toList)→VP P T ops N l F h →
  ∀a w,a.tmps.size=n→a.defers=[]→env a=F→YE T w h→wpList P ops (Pw n T N X R) l a w
 | [],F,h,_,H,a,w,h1,h2,h3,h4=>⟨h1,h2,h,h4,by rw[h3];exact H⟩
 | o :: l,F,h,hm,H,a,w,h1,h2,h3,h4=>by
  have hd:∀d,o.dst=some d→d<a.tmps.size:=by
   rw[h1];exact Xn (List.all_eq_true.1 ZW o (hm o (by simp)))
  have Ke:∀o∈l,o∈ops.toList:=fun x hx=>hm x (by simp[hx])
  have Wg:Region.wanted o (yielded ops a.tmps)=Zh ops o F:=by rw[Ji ZW a h1,h3];rfl
  unfold wpList
  rw[Wg]
  unfold VP at H
  split at H
  ·rename_i hw
   rw[if_pos hw]
   refine .inl (QE H h3 h4 fun v w' h' QT hk=>?_)
   exact Yr ZW l _ h' Ke hk _ _ (by rw[Xy,h1]) (by cases o.dst<;>exact h2) (by rw[JE a _ _ hd,h3]) QT
  ·rename_i hw
   rw[if_neg hw]
   exact Yr ZW l _ h Ke H _ _ (by rw[Xy,h1]) (by cases o.dst<;>exact h2) (by rw[JE a _ _ hd,h3]) h4
theorem VS.region {id:Nat} {ops:Array Oper} (ZW:Jh n ops=true) (H:VP P T ops N ops.toList F h):VS P n T (.region id ops false) N X R F h:=by
 intro a w h1 h2 h3 h4
 exact wp_region_list (Yr ZW ops.toList F h (fun _ h=>h) H a w h1 h2 h3 h4)
def ZS (P:Program) (T:World) (ops:Array Oper) (i:Nat) (K:Env→Hp→Prop) (F:Env) (h:Hp):Prop:=
 match ops[i]? with
 | none=>K F h
 | some o=>if Zh ops o F then Us P T o (fun v h'=>K (Zi F o.dst v) h') F h else K (Zi F o.dst undef) h
theorem ZA {ops:Array Oper} {i:Nat} {K K':Env→Hp→Prop} (hk:∀F h,K F h→K' F h) {F:Env} {h:Hp} (H:ZS P T ops i K F h):ZS P T ops i K' F h:=by
 unfold ZS at *
 split at H
 ·exact hk _ _ H
 ·split at H
  ·rename_i hw;rw[if_pos hw];exact XA (fun _ _ q=>hk _ _ q) H
  ·rename_i hw;rw[if_neg hw];exact hk _ _ H
def Wh (P:Program) (T:World) (ops:Array Oper) (S:Hp→Prop) (N:Env→Hp→Prop):Nat→Array Bool→Env→Hp→Prop
 | 0,listed,F,h=>Region.ready .any ops listed=[]∧N F h
 | k+1,listed,F,h=>(Region.ready .any ops listed=[]→N F h) ∧
   ∀i∈Region.ready .any ops listed,ZS P T ops i (fun F' h'=>S h'∧Wh P T ops S N k (listed.setIfInBounds i true) F' h') F h
theorem ZE {ops:Array Oper} {S:Hp→Prop} (ZW:Jh n ops=true):∀(k:Nat) (listed:Array Bool) (F:Env) (h:Hp),Wh P T ops S N k listed F h →
  ∀a w,a.tmps.size=n→a.defers=[]→env a=F→YE T w h→wpAny P .any ops (Pw n T N X R) k listed a w
 | 0,listed,F,h,H,a,w,h1,h2,h3,h4=>⟨H.1,h1,h2,h,h4,by rw[h3];exact H.2⟩
 | k+1,listed,F,h,H,a,w,h1,h2,h3,h4=>by
  refine⟨fun h0=>⟨h1,h2,h,h4,by rw[h3];exact H.1 h0⟩,fun i hi=>?_⟩
  have Hi:=H.2 i hi
  unfold ZS at Hi
  unfold wpOp
  cases ho:ops[i]? with
  | none=>rw[ho]at Hi;exact ZE ZW k _ F h Hi.2 a w h1 h2 h3 h4
  | some o=>
   rw[ho]at Hi
   simp only at Hi ⊢
   have hd:∀d,o.dst=some d→d<a.tmps.size:=by
    rw[h1];exact Xn (List.all_eq_true.1 ZW o (by have:=Array.mem_of_getElem? ho;simpa using this))
   have Wg:Region.wanted o (yielded ops a.tmps)=Zh ops o F:=by rw[Ji ZW a h1,h3];rfl
   rw[Wg]
   split at Hi
   ·rename_i hw
    rw[if_pos hw]
    refine .inl (QE Hi h3 h4 fun v w' h' QT hk=>?_)
    exact ZE ZW k _ _ h' hk.2 _ _ (by rw[Xy,h1]) (by cases o.dst<;>exact h2) (by rw[JE a _ _ hd,h3]) QT
   ·rename_i hw
    rw[if_neg hw]
    exact ZE ZW k _ _ h Hi.2 _ _ (by rw[Xy,h1]) (by cases o.dst<;>exact h2) (by rw[JE a _ _ hd,h3]) h4
def Z0 (P:Program) (T:World) (ops:Array Oper) (S:Hp→Prop) (o:Oper) (v:Value) (F:Env):Prop:=
 (Zh ops o F=true∧∀h,S h→Us P T o (fun v' h'=>v'=v∧h'=h) F h)∨(Zh ops o F=false∧v=undef)
theorem Rk {F:Env} {dst:Option Nat} {v:Value} {x:Operand} (hx:∀d,dst=some d→x ≠ .tmp d):ev (Zi F dst v) x=ev F x:=by
 cases dst with
 | none=>rfl
 | some d=>
  cases x with
  | tmp t=>
   have Z1:t≠d:=fun e=>hx d rfl (by rw[e])
   show (if t=d then v else F t)=F t
   rw[if_neg Z1]
  | _=>rfl
theorem Jj {ops:Array Oper} (o:Oper) (hs:∀cs b,o.op ≠ .select cs b) (F:Env) (dst:Option Nat) (v:Value) (h:∀d,dst=some d→d ∉ o.looksAt ops) :
  execOp (ev (Zi F dst v)) o=execOp (ev F) o:=
 execOp_congr o hs fun x hx=>Rk fun d hd K7=>h d hd (by
  subst K7
  exact List.mem_append_left _ (List.mem_filterMap.2 ⟨.tmp d,by simpa using hx,rfl⟩))
theorem XB {ops:Array Oper} (o:Oper) (F:Env) (dst:Option Nat) (v:Value) (h:∀d,dst=some d→d ∉ o.looksAt ops) :
  Zh ops o (Zi F dst v)=Zh ops o F:=by
 cases dst with
 | none=>rfl
 | some d=>
  unfold Zh Region.wanted
  cases hg:o.guard with
  | none=>rfl
  | some gw=>
   obtain⟨g,want⟩:=gw
   simp only
   have hd:=h d rfl
   unfold Oper.looksAt at hd
   rw[hg]at hd
   simp only[List.mem_append,not_or]at hd
   have:Z8 ops (Zi F (some d) v) g=Z8 ops F g:=by
    unfold Z8
    cases hb:(ops[g]?).bind (·.dst) with
    | none=>rfl
    | some t=>
     have Z1:t≠d:=fun e=>hd.2 (by rw[hb,e];simp)
     show (match (if t=d then v else F t) with|.bool b=>some b|_=>none)=_
     rw[if_neg Z1]
   rw[this]
theorem QF (F:Env) {d d':Option Nat} (v v':Value) (h:∀x,d=some x→d'≠some x):Zi (Zi F d v) d' v'=Zi (Zi F d' v') d v:=by
 cases d with
 | none=>rfl
 | some x=>
  cases d' with
  | none=>rfl
  | some y=>
   have Z1:y≠x:=fun e=>h x rfl (by rw[e])
   funext t
   simp only[Zi,Ot]
   by_cases h1:t=y
   ·subst h1;rw[if_pos rfl,if_neg Z1,if_pos rfl]
   ·rw[if_neg h1]
    by_cases h2:t=x
    ·rw[if_pos h2,if_pos h2]
    ·rw[if_neg h2,if_neg h2,if_neg h1]
theorem Z0.put {ops:Array Oper} {S:Hp→Prop} {o:Oper} (hs:∀cs b,o.op ≠ .select cs b) {v:Value} {F:Env} (hy:Z0 P T ops S o v F) {dst:Option Nat} {u:Value}
  (h:∀d,dst=some d→d ∉ o.looksAt ops):Z0 P T ops S o v (Zi F dst u):=by
 unfold Z0 Us at *
 rw[XB o F dst u h,Jj o hs F dst u h]
 exact hy
theorem Z0.Ou {ops:Array Oper} {S:Hp→Prop} {i:Nat} {o:Oper} {v:Value} {F:Env} {h:Hp} (hi:ops[i]? = some o) (hy:Z0 P T ops S o v F) (hS:S h)
  {K:Env→Hp→Prop} (H:K (Zi F o.dst v) h):ZS P T ops i K F h:=by
 unfold ZS
 rw[hi]
 rcases hy with⟨hw,hv⟩|⟨hw,rfl⟩
 ·simp only[hw,if_true]
  exact XA (fun v' h' ⟨e1,e2⟩=>by subst e1;subst e2;exact H) (hv h hS)
 ·simp only[hw,Bool.false_eq_true,if_false];exact H
theorem JM {ops:Array Oper} {S:Hp→Prop} {j:Nat} {oi oj:Oper} {v:Value} (hj:ops[j]? = some oj) (K8:oi.apart ops oj=true)
  (Kf:∀cs b,oi.op ≠ .select cs b) (K9:∀cs b,oj.op ≠ .select cs b) {K:Env→Hp→Prop} {F:Env} {h:Hp} (hy:Z0 P T ops S oi v F)
  (H:ZS P T ops j K (Zi F oi.dst v) h):ZS P T ops j (fun F' h'=>Z0 P T ops S oi v F'∧K (Zi F' oi.dst v) h') F h:=by
 obtain⟨h1,h2,h3⟩:=Oper.apart_spec K8
 unfold ZS at *
 rw[hj]at *
 simp only at *
 rw[XB oj F oi.dst v h1]at H
 split at H
 ·rename_i hw
  rw[if_pos hw]
  unfold Us at *
  rw[Jj oj K9 F oi.dst v h1]at H
  refine Vu (JL fun u h' q=>?_) _ _ H
  exact⟨hy.put Kf h3,by rw[←QF F v u h2];exact q⟩
 ·rename_i hw
  rw[if_neg hw]
  exact⟨hy.put Kf h3,by rw[←QF F v undef h2];exact H⟩
theorem JN {ops:Array Oper} {S:Hp→Prop} {i:Nat} {oi:Oper} {v:Value} (hi:ops[i]? = some oi) (Ut:∀(j:Nat) (o:Oper) cs b,ops[j]? = some o→o.op ≠ .select cs b) :
  ∀(k:Nat) (listed:Array Bool) (F:Env) (h:Hp),
   (∀j oj,ops[j]? = some oj→j≠i→listed.getD j true=false→(∀e∈oj.after,Region.binds .any e=true→e.on≠i)→oi.apart ops oj=true) →
   i∈Region.ready .any ops listed→Z0 P T ops S oi v F→S h →
   Wh P T ops S N k (listed.setIfInBounds i true) (Zi F oi.dst v) h→Wh P T ops S N (k+1) listed F h:=by
 intro k
 induction k with
 | zero=>
  intro listed F h _ hr hy hS H
  refine⟨fun h=>(by rw[h]at hr;cases hr),fun j hj=>?_⟩
  by_cases Jk:j=i
  ·subst Jk;exact hy.Ou hi hS ⟨hS,H⟩
  ·have:=ready_mono hj Jk
   rw[H.1]at this
   cases this
 | succ k ih=>
  intro listed F h Jl hr hy hS H
  refine⟨fun h=>(by rw[h]at hr;cases hr),fun j hj=>?_⟩
  by_cases Jk:j=i
  ·subst Jk;exact hy.Ou hi hS ⟨hS,H⟩
  ·have h1:=H.2 j (ready_mono hj Jk)
   obtain⟨Uu,oj,VQ,YF⟩:=mem_ready.1 hj
   have TV:∀e∈oj.after,Region.binds .any e=true→e.on≠i:=fun e he hb heq=>by
    have h1:=YF e he hb
    have h0:=(mem_ready.1 hr).1
    rw[heq]at h1
    rcases Nat.lt_or_ge i listed.size with h'|h'
    ·simp[h']at h0 h1;rw[h0]at h1;cases h1
    ·simp[Array.getElem?_eq_none h']at h1
   have h2:=JM VQ (Jl j oj VQ Jk Uu TV) (fun cs b=>Ut i oi cs b hi) (fun cs b=>Ut j oj cs b VQ) hy h1
   have JO:∀k ok,ops[k]? = some ok→k≠i→(listed.setIfInBounds j true).getD k true=false →
     (∀e∈ok.after,Region.binds .any e=true→e.on≠i)→oi.apart ops ok=true:=fun k ok hk OO Pa OP=>by
    refine Jl k ok hk OO ?_ OP
    by_cases Vv:j=k
    ·subst Vv;exact Uu
    ·rw[getD_set_ne true Vv]at Pa;exact Pa
   refine ZA (fun F' h' h3=>⟨h3.2.1,ih (listed.setIfInBounds j true) F' h' JO (ready_mono hr (Ne.symm Jk)) h3.1 h3.2.1 ?_⟩) h2
   rw[Array.setIfInBounds_comm _ _ Jk]
   exact h3.2.2
def XC (P:Program) (T:World) (ops:Array Oper) (S:Hp→Prop) (N:Env→Hp→Prop):List (Nat × Bool × Oper)→Env→Hp→Prop
 | [],F,h=>N F h
 | (_,q,o) :: l,F,h=>
  if Zh ops o F then
   if q then ∃v,(∀h',S h'→Us P T o (fun v' X3=>v'=v∧X3=h') F h')∧XC P T ops S N l (Zi F o.dst v) h
   else Us P T o (fun v h'=>S h'∧XC P T ops S N l (Zi F o.dst v) h') F h
  else XC P T ops S N l (Zi F o.dst undef) h
def Yg (ops:Array Oper) (l:List (Nat × Bool)):List (Nat × Bool × Oper):=l.map fun (i,q)=>(i,q,ops.getD i default)
def JP (ops:Array Oper):List (Nat × Bool)→Array Bool→Bool
 | [],listed=>(Region.ready .any ops listed).isEmpty
 | (i,q) :: l,listed=>
  (if q then (Region.ready .any ops listed).contains i&&Region.free .any ops listed i else (Region.ready .any ops listed == [i]))&&JP ops l (listed.setIfInBounds i true)
theorem ZT {ops:Array Oper} {S:Hp→Prop} (hs:Region.noSelect ops=true):∀(l:List (Nat × Bool)) (listed:Array Bool) (F:Env) (h:Hp),JP ops l listed=true→S h →
  XC P T ops S N (Yg ops l) F h→Wh P T ops S N l.length listed F h
 | [],listed,F,h,hB,_,H=>⟨by simpa [JP] using hB,H⟩
 | (i,q) :: l,listed,F,h,hB,hS,H=>by
  simp only[JP,Bool.and_eq_true]at hB
  obtain⟨VR,Mf⟩:=hB
  have Xo:i∈Region.ready .any ops listed:=by
   cases q
   ·simp only[Bool.false_eq_true,if_false,beq_iff_eq]at VR;rw[VR];simp
   ·simp only[if_true,Bool.and_eq_true]at VR;simpa using VR.1
  obtain⟨_,o,ho,_⟩:=mem_ready.1 Xo
  have hp:Yg ops ((i,q) :: l)=(i,q,o) :: Yg ops l:=by simp[Yg,ho]
  rw[hp]at H
  simp only[XC]at H
  cases q with
  | true=>
   simp only[if_true,Bool.and_eq_true]at VR H
   split at H
   ·rename_i hw
    obtain⟨v,hv,H⟩:=H
    exact JN ho (Region.noSelect_spec hs) l.length listed F h (Region.free_spec ho VR.2) Xo (.inl ⟨hw,hv⟩) hS (ZT hs l _ _ _ Mf hS H)
   ·rename_i hw
    exact JN ho (Region.noSelect_spec hs) l.length listed F h (Region.free_spec ho VR.2) Xo (.inr ⟨by simpa using hw,rfl⟩) hS (ZT hs l _ _ _ Mf hS H)
  | false=>
   simp only[Bool.false_eq_true,if_false,beq_iff_eq]at VR H
   refine⟨fun h0=>(by rw[h0]at Xo;cases Xo),fun j hj=>?_⟩
   rw[VR]at hj
   have hj:j=i:=by simpa using hj
   subst hj
   unfold ZS
   rw[ho]
   simp only
   split at H
   ·rename_i hw
    rw[if_pos hw]
    exact XA (fun v h' q=>⟨q.1,ZT hs l _ _ _ Mf q.1 q.2⟩) H
   ·rename_i hw
    rw[if_neg hw]
    exact⟨hS,ZT hs l _ _ _ Mf hS H⟩
def YI (n:Nat) (ops:Array Oper) (l:List (Nat × Bool)):Bool:=
 Jh n ops&&(Region.noSelect ops&&(JP ops l (Array.replicate ops.size false)&&Nat.beq l.length ops.size))
theorem VS.held {id:Nat} {ops:Array Oper} (S:Hp→Prop) (l:List (Nat × Bool)) (hm:P.follows .mixedOrders=true) (ZW:YI n ops l=true) (hS:S h)
  (H:XC P T ops S N (Yg ops l) F h):VS P n T (.region id ops true) N X R F h:=by
 intro a w h1 h2 h3 h4
 simp only[YI,Bool.and_eq_true]at ZW
 obtain⟨k1,k2,k3,k4⟩:=ZW
 refine wp_region_any hm ?_
 have hl:l.length=ops.size:=Nat.eq_of_beq_eq_true k4
 rw[←hl]
 refine ZE k1 _ _ F h (ZT k2 l _ F h (by rw[hl];exact k3) hS H) a _ h1 h2 h3 ⟨h4.heap,h4.tape,h4.os,h4.output⟩
theorem VS.quiet {id:Nat} {ops:Array Oper} (hm:P.follows .mixedOrders=true) (ZW:YI n ops ((List.range ops.size).map fun i=>(i,true))=true)
  (H:XC P T ops (fun h'=>h'=h) N (Yg ops ((List.range ops.size).map fun i=>(i,true))) F h):VS P n T (.region id ops true) N X R F h:=
 VS.held (fun h'=>h'=h) _ hm ZW rfl H
def hr {α:Type} (P:Program):Sem α→Hp→Option α
 | .pure a,_=>some a
 | .load _ a k,h=>(hc h a).bind fun v=>hr P (k v) h
 | .shape r k,h=>hr P (k (ZN h r)) h
 | .frozen a k,h=>hr P (k (Pv h a)) h
 | .program k,h=>hr P (k P) h
 | _,_=>none
theorem TW {α:Type} {P:Program} {T:World}:∀(s:Sem α) (h:Hp) (a:α),hr P s h=some a→∀w,YE T w h→s.run P w=.ok a w:=by
 intro s
 induction s with
 | pure a=>intro h b H w hs;simp only[hr,Option.some.injEq]at H;rw[H];rfl
 | load m a k ih=>
  intro h b H w hs
  simp only[hr]at H
  cases hv:hc h a with
  | none=>rw[hv]at H;cases H
  | some v=>
   rw[hv]at H
   have:w.cell? a=some v:=by rw[World.cell?,hs.heap];exact hv
   rw[Sem.run,this];exact ih v h b H w hs
 | shape r k ih=>
  intro h b H w hs
  have:w.shape? r=ZN h r:=by rw[World.shape?,hs.heap];rfl
  rw[Sem.run,this];exact ih _ h b H w hs
 | frozen a k ih=>
  intro h b H w hs
  have:w.frozen? a=Pv h a:=by rw[World.frozen?,hs.heap];rfl
  rw[Sem.run,this];exact ih _ h b H w hs
 | program k ih=>intro h b H w hs;rw[Sem.run];exact ih _ h b H w hs
 | _=>intro h b H;cases H
theorem ZL {α β:Type} {P:Program} (s:Sem α) (f:α→Sem β):∀h,hr P (s >>= f) h=(hr P s h).bind fun a=>hr P (f a) h:=by
 show ∀h,hr P (s.bind f) h=_
 induction s with
 | load m a k ih=>intro h;simp only[Sem.bind,hr,ih];cases hc h a<;>rfl
 | shape r k ih=>intro h;simp only[Sem.bind,hr,ih]
 | frozen a k ih=>intro h;simp only[Sem.bind,hr,ih]
 | program k ih=>intro h;simp only[Sem.bind,hr,ih]
 | _=>intro h;rfl
def XD (P:Program) (t:TypeId) (v:Value) (h:Hp):Option Value:=
 match v with
 | .pointer (some a)=>hr P (loadVar t a) h
 | _=>none
def ZM (P:Program) (F:Env) (h:Hp):List ResultVar→Option (List Value)
 | []=>some []
 | .tmp t :: l=>(ZM P F h l).map (F t :: ·)
 | .cell a t :: l=>(XD P t (F a) h).bind fun v=>(ZM P F h l).map (v :: ·)
def Xp:List Value→Value
 | [v]=>v
 | l=>.tuple l.toArray
def JQ (P:Program) (l:List ResultVar) (F:Env) (Q:Value→Hp→Prop) (h:Hp):Prop:=
 match ZM P F h l with
 | some vs=>Q (Xp vs) h
 | none=>False
def Rl (F:Env):ResultVar→Sem Value
 | .tmp t=>pure (F t)
 | .cell a t=>do loadVar t (←asAddr (F a))
theorem VT {F:Env} {h:Hp}:∀(l:List ResultVar) (vs:List Value),ZM P F h l=some vs→hr P (l.mapM (Rl F)) h=some vs:=by
 intro l
 induction l with
 | nil=>intro vs H;simp only[ZM,Option.some.injEq]at H;subst H;rfl
 | cons x l ih=>
  intro vs H
  rw[List.mapM_cons,ZL]
  cases x with
  | tmp t=>
   simp only[ZM]at H
   cases hl:ZM P F h l with
   | none=>rw[hl]at H;cases H
   | some us=>
    rw[hl]at H
    simp only[Option.map_some,Option.some.injEq]at H
    subst H
    show (some (F t)).bind _=_
    rw[Option.bind_some,ZL,ih us hl];rfl
  | cell a t=>
   simp only[ZM]at H
   cases hv:XD P t (F a) h with
   | none=>rw[hv]at H;cases H
   | some v=>
    rw[hv]at H
    cases hl:ZM P F h l with
    | none=>rw[hl]at H;cases H
    | some us=>
     rw[hl]at H
     simp only[Option.bind_some,Option.map_some,Option.some.injEq]at H
     subst H
     have e:hr P (Rl F (.cell a t)) h=some v:=by
      show hr P (asAddr (F a) >>= fun b=>loadVar t b) h=some v
      unfold XD at hv
      split at hv
      ·rename_i b hb
       rw[hb,ZL];exact hv
      ·cases hv
     rw[e,Option.bind_some,ZL,ih us hl];rfl
theorem Uv {fn:Func} {l:List ResultVar} (hl:fn.results=l.toArray) {a:Act} {h:Hp} {vs:List Value} (H:ZM P (env a) h l=some vs) {w:World} (hs:YE T w h) :
  (results fn a.tmps).run P w=.ok (Xp vs) w:=by
 have e:results fn a.tmps=(do let us ←fn.results.mapM (Rl (env a));pure (if h:us.size=1 then us[0] else .tuple us)):=by
  have e1:(fun x:ResultVar=>match x with|.tmp t=>(pure (a.tmps.getD t undef):Sem Value)|.cell x t=>do loadVar t (←asAddr (a.tmps.getD x undef)))=Rl (env a):=by
   funext x
   cases x<;>rfl
  rw[←e1]
  rfl
 rw[e,hl]
 refine TW (T:=T) _ h _ ?_ w hs
 rw[ZL,List.mapM_toArray,map_eq_pure_bind,ZL,VT l vs H]
 show some _=_
 congr 1
 match vs with
 | []=>rfl
 | [v]=>rfl
 | v :: u :: l=>simp[Xp]
end
theorem VU (args:Array Value) (k:Nat):env { tmps:=args++Array.replicate k undef,defers:=[] } = Qp args.toList 0:=by
 have key:∀(l:List Value) (j t:Nat),Qp l j t=if j≤t then (l[t-j]?).getD undef else undef:=by
  intro l
  induction l with
  | nil=>intro j t;simp[Qp]
  | cons v l ih=>
   intro j t
   simp only[Qp,Ot]
   by_cases h:t=j
   ·subst h;simp
   ·rw[if_neg h,ih]
    by_cases h':j≤t
    ·have e:t-j=(t-(j+1))+1:=by omega
     rw[if_pos (by omega),if_pos h',e];simp
    ·rw[if_neg (by omega),if_neg h']
 funext t
 rw[key]
 simp only[env,Nat.zero_le,if_true,Nat.sub_zero,Array.getD_eq_getD_getElem?,Array.getElem?_append,Array.getElem?_toList]
 by_cases h:t<args.size
 ·rw[if_pos h]
 ·rw[if_neg h,Array.getElem?_eq_none (by omega:args.size≤t)]
  by_cases h2:t-args.size<k
  ·simp[h2]
  ·simp[h2]
theorem Ze.Vw {P:Program} {T:World} {f:FuncId} {fn:Func} {c:Code} {l:List ResultVar} {args:Array Value} {h:Hp} {Q:Value→Hp→Prop} (hf:P.funcs[f]? = some fn) (hb:fn.body=some c)
  (hl:fn.results=l.toArray) (hn:Nat.ble args.size fn.ntmps=true)
  (H:VS P fn.ntmps T c (fun F h'=>JQ P l F Q h') (fun _ _ _=>False) (fun F h'=>JQ P l F Q h') (Qp args.toList 0) h) :
  Ze P T f args h Q:=by
 intro w hs
 refine calls_of_wp hf hb (Code.wp_mono (fun e a w hp=>?_) (H _ w ?_ rfl (VU _ _) hs))
 ·obtain⟨q1,q2,h',q3,q4⟩:=hp
  have key:JQ P l (env a) Q h'→∃v,(results fn a.tmps).run P w=.ok v w∧∃v' X3,Ending.returned v=.returned v'∧YE T w X3∧Q v' X3:=by
   intro hr
   unfold JQ at hr
   split at hr
   ·rename_i vs Px
    exact⟨_,Uv hl Px q3,_,h',rfl,q3,hr⟩
   ·exact hr.elim
  cases e with
  | normal=>exact⟨q2,key q4⟩
  | ret=>exact⟨q2,key q4⟩
  | _=>exact q4.elim
 ·have:=Nat.le_of_ble_eq_true hn
  simp only[Array.size_append,Array.size_replicate];omega
set_option linter.unusedSimpArgs false
set_option linter.unusedVariables false
def tz (P:Program) (t:TypeId):Option (List Value):=((P.info? t).bind (·.zero)).map fun v=>v.cells.toList
def tn (P:Program) (t:TypeId):Option Nat:=(P.info? t).map (·.size)
def tb (P:Program) (t:TypeId):Option Nat:=(P.info? t).map (·.bytes)
def ta (P:Program) (t:TypeId):Option Bool:=(P.underlying t).map fun|.struct _=>true|.array _ _=>true|_=>false
def tf (P:Program) (t:TypeId) (i:Nat):Option Nat:=
 match P.underlying t with
 | some (.struct fs)=>(fs[i]?).bind fun f=>match tn P f.type with
  | some (_+1)=>some f.offset
  | _=>none
 | _=>none
def Yh (P:Program) (t:TypeId):Option (Nat × TypeId):=match P.underlying t with|some (.array n e)=>some (n,e)|_=>none
def YY (P:Program) (t:TypeId):Option TypeId:=match P.underlying t with|some (.slice e)=>some e|_=>none
def Ov (P:Program) (t:TypeId):Option (List (Nat × Nat)):=match P.underlying t with|some (.struct fs)=>fs.toList.mapM (fun f=>(tn P f.type).map fun n=>(f.offset,n))|_=>none
def Mg (P:Program) (t:TypeId) (i:Nat):Option (Nat × TypeId):=match P.underlying t with|some (.struct fs)=>(fs[i]?).map fun f=>(f.offset,f.type)|_=>none
def Jw (P:Program) (t:TypeId):Bool:=match P.underlying t with|some .string=>true|_=>false
def Wi (P:Program) (t:TypeId):Option IntKind:=match P.underlying t with|some (.int k)=>some k|_=>none
def goes (P:Program) (f:FuncId):Bool:=match P.funcs[f]? with|some fn=>!(fn.name == "runtime.NumGoroutine")&&fn.body.isSome|none=>false
def cl:Value→List Value
 | .agg cs=>cs.toList
 | v=>[v]
theorem XE (v:Value):(cl v).toArray=v.cells:=by cases v<;>rfl
section
variable (P:Program) (T:World)
def QG (c a b:Value) (K:Value→Hp→Prop) (h:Hp):Prop:=
 match c with|.bool t=>K (if t then a else b) h|_=>False
def TX (z:Option (List Value)) (t:TypeId) (K:Value→Hp→Prop) (h:Hp):Prop:=
 match z with|some l=>K (.pointer (some ⟨h.size,0,none⟩)) (h.push (.cells l.toArray t))|none=>False
def rd (h:Hp) (a:Addr) (n:Nat):Option (List Value):=
 match h[a.block]? with
 | some (.cells c _ _)=>if a.spot=none∧a.off+n≤c.size then some ((c.toList.drop a.off).take n) else none
 | _=>none
def Jx (x:Option Value) (K:Value→Hp→Prop) (h:Hp):Prop:=match x with|some v=>K v h|none=>False
def JR (x:Option (List Value)) (K:Value→Hp→Prop) (h:Hp):Prop:=match x with|some l=>K (.agg l.toArray) h|none=>False
def XF (s:Option Bool) (n:Option Nat) (p:Value) (K:Value→Hp→Prop) (h:Hp):Prop:=
 match p with
 | .pointer (some a)=>match s,n with
  | some false,_=>Jx (hc h a) K h
  | some true,some n=>JR (rd h a n) K h
  | _,_=>False
 | _=>False
def ZI:List Value→Nat→List Value→List Value
 | l,_,[]=>l
 | [],_,_ :: _=>[]
 | _ :: l,0,v :: vs=>v :: ZI l 0 vs
 | x :: l,n+1,v :: vs=>x :: ZI l n (v :: vs)
def wr (h:Hp) (a:Addr) (vs:List Value):Option Hp:=
 match h[a.block]? with
 | some (.cells c e (lo,hi))=>if a.spot=none∧a.off+vs.length≤c.size∧hi≤lo∧vs.all YW=true then some (h.setIfInBounds a.block (.cells (ZI c.toList a.off vs).toArray e (lo,hi))) else none
 | _=>none
def We (h:Hp) (a:Addr) (v:Value):Option Hp:=
 match h[a.block]? with
 | some (.cells c e (lo,hi))=>if a.spot=none∧a.off<c.size∧hi≤lo∧YW v=true then some (h.setIfInBounds a.block (.cells (c.setIfInBounds a.off v) e (lo,hi))) else none
 | _=>none
def Vx (x:Option Hp) (K:Value→Hp→Prop):Prop:=match x with|some h'=>K undef h'|none=>False
def Yi (n:Option Nat) (p v:Value) (K:Value→Hp→Prop) (h:Hp):Prop:=
 match p,n with
 | .pointer (some a),some n=>
  if n=(cl v).length then
   match v with
   | .agg cs=>Vx (wr h a cs.toList) K
   | v=>Vx (We h a v) K
  else False
 | _,_=>False
def Xq (f:Option Nat) (p:Value) (K:Value→Hp→Prop) (h:Hp):Prop:=
 match f,p with
 | some o,.pointer (some a)=>K (.pointer (some (a.add o))) h
 | _,_=>False
def Zt (op:BinOp) (t:TypeId) (x y:Operand) (a b:Value) (K:Value→Hp→Prop) (h:Hp):Prop:=
 hw P (do eqGuard op t x y a b;binOp op t a b) K h
def Ox (op:UnOp) (a:Value) (K:Value→Hp→Prop) (h:Hp):Prop:=hw P (Op.unary op a) K h
def YZ (src dst:TypeId) (a:Value) (K:Value→Hp→Prop) (h:Hp):Prop:=hw P (convert src dst a) K h
def Pb (arr:Option (Nat × TypeId)) (sl:Option TypeId) (n:TypeId→Option Nat) (p i:Value) (K:Value→Hp→Prop) (h:Hp):Prop:=
 match i with
 | .int _ i=>(match arr,sl,p with
  | some (len,e),none,.pointer (some a)=>(match n e with
   | some n=>if 0≤i∧i<(len:Int) then K (.pointer (some (a.add (i.toNat*n)))) h else False
   | none=>False)
  | none,some e,.slice (some a) len _=>(match n e with
   | some n=>if 0≤i∧i<(len:Int) then K (.pointer (some (a.add (i.toNat*n)))) h else False
   | none=>False)
  | _,_,_=>False)
 | _=>False
def Ys (v:Value) (i:Nat) (K:Value→Hp→Prop) (h:Hp):Prop:=
 match v with|.tuple vs=>Jx (vs[i]?) K h|_=>False
def Wj (v:Value) (K:Value→Hp→Prop) (h:Hp):Prop:=
 match v with|.pointer (some a)=>K (.pointer (some a)) h|.func (.func f) x y=>K (.func (.func f) x y) h|_=>False
def Jm (f:Value) (args:List Value) (K:Value→Hp→Prop) (h:Hp):Prop:=
 match f with
 | .func (.func f) first captured=>if goes P f=true then Ze P T f (first.toList++args++captured.toList).toArray h K
  else hw P (callFunc f (first.toList++args++captured.toList).toArray) (ZQ P T K) h
 | _=>False
def Ql (b:Builtin) (ts:Array TypeId) (ty:TypeId) (cs:Array Bool) (args:List Value) (K:Value→Hp→Prop) (h:Hp):Prop:=
 hw P (builtin b ts ty cs args.toArray) (ZQ P T K) h
def TN (F:Env):List Operand→List Value
 | []=>[]
 | x :: l=>ev F x :: TN F l
theorem QU (F:Env) (l:List Operand):TN F l=l.map (ev F):=by induction l with|nil=>rfl|cons x l ih=>simp[TN,ih]
def nth {α:Type}:List α→Nat→Option α
 | [],_=>none
 | x :: _,0=>some x
 | _ :: l,n+1=>nth l n
def XG (n:Nat) (i:Nat):Option (Nat × Nat):=some (i*n,n)
def Z9 (place:Nat→Option (Nat × Nat)):List Value→List (Nat × Value)→Option (List Value)
 | cs,[]=>some cs
 | cs,(i,v) :: l=>match place i with
  | some (o,s)=>if (cl v).length=s∧o+s≤cs.length then Z9 place (ZI cs o (cl v)) l else none
  | none=>none
def Wk (F:Env):List (Nat × Operand)→List (Nat × Value)
 | []=>[]
 | (i,x) :: l=>(i,ev F x) :: Wk F l
def JG (n:Option Nat) (z:List Value) (parts:List (Nat × Value)) (K:Value→Hp→Prop) (h:Hp):Prop:=
 match n with|some n=>JR (Z9 (XG n) z parts) K h|none=>False
def Xr (z:Option (List Value)) (pl:Option (List (Nat × Nat))) (arr:Option (Nat × TypeId)) (n:TypeId→Option Nat) (parts:List (Nat × Value)) (K:Value→Hp→Prop) (h:Hp):Prop:=
 match z,pl,arr with
 | some z,some pl,none=>JR (Z9 (nth pl) z parts) K h
 | some z,none,some (_,e)=>JG (n e) z parts K h
 | _,_,_=>False
def Yn:Nat→List Value→List Value
 | 0,_=>[]
 | n+1,z=>z++Yn n z
def Wl:Nat→List (Nat × Value)→Option (List Value)
 | _,[]=>some []
 | k,(i,v) :: l=>if i=k∧YW v=true then (Wl (k+1) l).map (v :: ·) else none
def Vy (e:TypeId) (len:Nat) (x:Option (List Value)) (K:Value→Hp→Prop) (h:Hp):Prop:=
 match x with|some l=>K (.slice (some ⟨h.size,0,none⟩) len len) (h.push (.cells l.toArray e))|none=>False
def JH (n len:Nat) (z:List Value) (parts:List (Nat × Value)):Option (List Value):=
 if n=1∧parts.length=len then Wl 0 parts else Z9 (XG n) (Yn len z) parts
def Y6 (e:TypeId) (n:Option Nat) (z:Option (List Value)) (len:Nat) (parts:List (Nat × Value)) (K:Value→Hp→Prop) (h:Hp):Prop:=
 match n,z with
 | some n,some z=>if z.length=n∧len*n≤16777216 then Vy e len (JH n len z parts) K h else False
 | _,_=>False
def XH (e:Option TypeId) (n:TypeId→Option Nat) (z:TypeId→Option (List Value)) (len:Nat) (parts:List (Nat × Value)) (K:Value→Hp→Prop) (h:Hp):Prop:=
 match e with
 | some e=>Y6 e (n e) (z e) len parts K h
 | none=>False
def Jn (a:Option Bool) (n:Option Nat) (cs:List Value) (o:Nat) (K:Value→Hp→Prop) (h:Hp):Prop:=
 match a,n with
 | some true,some n=>K (.agg ((cs.drop o).take n).toArray) h
 | some false,_=>Jx (nth cs o) K h
 | _,_=>False
def TY (f:Option (Nat × TypeId)) (a:TypeId→Option Bool) (n:TypeId→Option Nat) (x:Value) (K:Value→Hp→Prop) (h:Hp):Prop:=
 match f,x with
 | some (o,t),.agg cs=>Jn (a t) (n t) cs.toList o K h
 | _,_=>False
def Vz (m:Option Nat) (a:Option Bool) (len:Nat) (cs:List Value) (i:Int) (K:Value→Hp→Prop) (h:Hp):Prop:=
 match m with|some m=>if 0≤i∧i<(len:Int) then Jn a (some m) cs (i.toNat*m) K h else False|none=>False
def VV (arr:Option (Nat × TypeId)) (str:Bool) (a:TypeId→Option Bool) (n:TypeId→Option Nat) (x i:Value) (K:Value→Hp→Prop) (h:Hp):Prop:=
 match i with
 | .int _ i=>(match arr,str,x with
  | some (len,e),false,.agg cs=>Vz (n e) (a e) len cs.toList i K h
  | none,true,.string s=>if 0≤i∧i<(s.size:Int) then K (.int .u8 ((s.data.toList.getD i.toNat 0).toNat:Nat)) h else False
  | _,_,_=>False)
 | _=>False
def sb (x:Option Value) (d y:Nat):Option Nat:=
 match x with
 | none=>some d
 | some (.int _ i)=>if 0≤i∧i≤(y:Int) then some i.toNat else none
 | _=>none
def TZ (F:Env):Option Operand→Option Value
 | none=>none
 | some x=>some (ev F x)
def YT (n:Option Nat) (a:Option Addr) (len cap:Nat) (lo hi:Option Value) (K:Value→Hp→Prop) (h:Hp):Prop:=
 match n,sb hi len cap with
 | some n,some b=>(match sb lo 0 b with
  | some l=>K (.slice (if cap=l then a else a.map (·.add (l*n))) (b-l) (cap-l)) h
  | none=>False)
 | _,_=>False
def QV (arr:Option (Nat × TypeId)) (sl:Option TypeId) (str:Bool) (n:TypeId→Option Nat) (x:Value) (lo hi mx:Option Value) (K:Value→Hp→Prop) (h:Hp):Prop:=
 match mx,x,arr,sl,str with
 | some mv,.slice a len cap,none,some e,_=>(match hi,sb (some mv) 0 cap with
  | some hv,some m=>YT (n e) a len m lo (some hv) K h
  | _,_=>False)
 | none,.slice a len cap,none,some e,_=>YT (n e) a len cap lo hi K h
 | none,.pointer (some a),some (len,e),none,_=>YT (n e) (some a) len len lo hi K h
 | none,.string s,none,none,true=>(match sb hi s.size s.size with
  | some b=>(match sb lo 0 b with|some l=>K (.string (s.extract l b)) h|none=>False)
  | none=>False)
 | _,_,_,_,_=>False
def Rm (e:TypeId) (n:Option Nat) (Oy:Option Nat) (z:Option (List Value)) (l c:Int) (K:Value→Hp→Prop) (h:Hp):Prop:=
 match n,Oy,z with
 | some n,some bytes,some z=>if z.length=n∧0≤l∧l≤c∧c≤9223372036854775807∧(bytes:Int)*c≤281474976710656 then K (.slice (some ⟨h.size,0,none⟩) l.toNat c.toNat) (h.push (.cells (Yn c.toNat z).toArray e)) else False
 | _,_,_=>False
def Mh (e:Option TypeId) (n Oy:TypeId→Option Nat) (z:TypeId→Option (List Value)) (l c:Value) (K:Value→Hp→Prop) (h:Hp):Prop:=
 match e,l,c with
 | some e,.int _ l,.int _ c=>Rm e (n e) (Oy e) (z e) l c K h
 | _,_,_=>False
def Xc (op:Op) (ty:TypeId) (K:Value→Hp→Prop) (F:Env) (h:Hp):Prop:=
 match op with
 | .move x|.assign x=>K (ev F x) h
 | .pick c a b=>QG (ev F c) (ev F a) (ev F b) K h
 | .alloc e=>TX (tz P e) e K h
 | .box e x=>TX (some (cl (ev F x))) e K h
 | .load t a=>XF (ta P t) (tn P t) (ev F a) K h
 | .store t a x=>Yi (tn P t) (ev F a) (ev F x) K h
 | .fieldAddr t x i=>Xq (tf P t i) (ev F x) K h
 | .indexAddr t x i=>Pb (Yh P t) (YY P t) (tn P) (ev F x) (ev F i) K h
 | .nilCheck x=>Wj (ev F x) K h
 | .binOp op t x y _=>Zt P op t x y (ev F x) (ev F y) K h
 | .unOp op _ x=>Ox P op (ev F x) K h
 | .convert s d x=>YZ P s d (ev F x) K h
 | .extract x i=>Ys (ev F x) i K h
 | .makeFunc fn first captured=>K (.func fn (TN F first.toList).toArray (TN F captured.toList).toArray) h
 | .call ⟨.value f,args,_⟩=>Jm P T (ev F f) (TN F args.toList) K h
 | .call ⟨.builtin b,args,ts⟩=>Ql P T b ts ty (args.map fun|.const _=>true|_=>false) (TN F args.toList) K h
 | .build t parts=>Xr (tz P t) (Ov P t) (Yh P t) (tn P) (Wk F parts.toList) K h
 | .buildSlice t len parts=>XH (YY P t) (tn P) (tz P) len (Wk F parts.toList) K h
 | .field t x i=>TY (Mg P t i) (ta P) (tn P) (ev F x) K h
 | .index t x i=>VV (Yh P t) (Jw P t) (ta P) (tn P) (ev F x) (ev F i) K h
 | .slice t x lo hi mx=>QV (Yh P t) (YY P t) (Jw P t) (tn P) (ev F x) (TZ F lo) (TZ F hi) (TZ F mx) K h
 | .makeSlice t l c=>Mh (YY P t) (tn P) (tb P) (tz P) (ev F l) (ev F c) K h
 | op=>Us P T ⟨none,op,ty, "", #[],none⟩ K F h
end
section
variable {P:Program} {T:World} {K:Value→Hp→Prop} {F:Env} {h:Hp} {ty:TypeId}
theorem Wm {Q:Program→Hp→Prop}:hw P program Q h=Q P h:=rfl
theorem Zd {α:Type} {Q:α→Hp→Prop} (a:α):hw P (pure a) Q h=Q a h:=rfl
theorem ZC {t:TypeId} {d:TypeInfo} (hd:P.info? t=some d) {Q:TypeInfo→Hp→Prop}:hw P (typeInfo t) Q h=Q d h:=by
 simp only[typeInfo];rw[Za];simp only[program,hw];rw[hd];rfl
theorem Zc {t:TypeId} {d:TypeDesc} (hd:P.underlying t=some d) {Q:TypeDesc→Hp→Prop}:hw P (underlying t) Q h=Q d h:=by
 simp only[underlying];rw[Za];simp only[program,hw];rw[hd];rfl
theorem run_sizeOf {t:TypeId} {n:Nat} (hn:tn P t=some n) {Q:Nat→Hp→Prop}:hw P (sizeOf t) Q h=Q n h:=by
 unfold tn at hn
 cases hi:P.info? t with
 | none=>rw[hi]at hn;cases hn
 | some i=>
  rw[hi]at hn
  simp only[Option.map_some,Option.some.injEq]at hn
  subst hn
  unfold sizeOf
  rw[Za,ZC hi];rfl
theorem Y7 {t:TypeId} {b:Bool} (hb:ta P t=some b) {Q:Bool→Hp→Prop}:hw P (isAgg t) Q h=Q b h:=by
 unfold ta at hb
 cases hi:P.underlying t with
 | none=>rw[hi]at hb;cases hb
 | some d=>
  rw[hi]at hb
  simp only[Option.map_some,Option.some.injEq]at hb
  subst hb
  unfold isAgg
  rw[Za,Zc hi]
  cases d<;>rfl
theorem ZD (b o n:Nat):Addr.add ⟨b,o,none⟩ n=⟨b,o+n,none⟩:=by
 unfold Addr.add
 split
 ·rename_i h;subst h;rfl
 ·rfl
theorem Y8 (a:Addr) (n:Nat) (ha:a.spot=none):a.add n=⟨a.block,a.off+n,none⟩:=by
 obtain⟨b,o,s⟩:=a
 simp only at ha
 subst ha
 exact ZD b o n
theorem run_loadCells (a:Addr) (c:List Value) {Q:Array Value→Hp→Prop}:∀(n i:Nat) (acc:Array Value),
  (∀j,j<n→hc h (a.add (i+j))=some (c.getD j undef))→n=c.length→Q (acc++c.toArray) h→hw P (loadCellsFrom a i n acc) Q h:=by
 induction c with
 | nil=>intro n i acc _ hn H;subst hn;simpa [loadCellsFrom,pure,hw] using H
 | cons v c ih=>
  intro n i acc hj hn H
  subst hn
  show hw P (load (a.add i) >>= fun v=>loadCellsFrom a (i+1) c.length (acc.push v)) Q h
  rw[Za]
  refine⟨v,by simpa using hj 0 (by simp),?_⟩
  refine ih _ (i+1) _ (fun j Mi=>?_) rfl ?_
  ·have:=hj (j+1) (by simp;omega)
   have e:i+(j+1)=i+1+j:=by omega
   rw[e]at this
   simpa using this
  ·simpa using H
theorem Wn {t:TypeId} {v:Value} (H:XF (ta P t) (tn P t) v K h):hw P (Instr.loadAt t v) K h:=by
 unfold XF at H
 split at H
 ·rename_i a
  unfold Instr.loadAt
  rw[Za]
  show hw P (loadVar t a) K h
  unfold loadVar
  rw[Za]
  split at H
  ·rename_i hs
   rw[Y7 hs]
   unfold Jx at H
   split at H
   ·rename_i v hv;exact⟨v,hv,H⟩
   ·exact H.elim
  ·rename_i n hs hn
   rw[Y7 hs]
   simp only[if_true]
   rw[Za,run_sizeOf hn,Za]
   unfold JR at H
   split at H
   ·rename_i l hl
    unfold rd at hl
    split at hl
    ·rename_i c e fr hb
     split at hl
     ·rename_i XI
      obtain⟨h1,h2⟩:=XI
      simp only[Option.some.injEq]at hl
      subst hl
      have hlen:((c.toList.drop a.off).take n).length=n:=by simp;omega
      refine run_loadCells a _ n 0 #[] (fun j hj=>?_) hlen.symm (by simpa [Zd] using H)
      rw[Y8 a _ h1]
      unfold hc
      rw[hb]
      simp only[Option.isSome_none,Bool.false_eq_true,if_false]
      rw[List.getD_eq_getElem?_getD,List.getElem?_take,if_pos hj,List.getElem?_drop]
      have e:a.off+(0+j)=a.off+j:=by omega
      rw[e]
      simp
      rw[Array.getElem?_eq_getElem (by omega)];rfl
     ·cases hl
    ·cases hl
   ·exact H.elim
  ·exact H.elim
 ·exact H.elim
theorem run_store {a:Addr} {v:Value} {Q:Unit→Hp→Prop}:hw P (store a v) Q h=(YW v=true∧(∃u,hc h a=some u)∧Pv h a=false∧Q () (VO h a v)):=rfl
theorem Rn {a:Addr} {c:Array Value} {e:TypeId} {fr:Nat × Nat} (hb:h[a.block]? = some (.cells c e fr)) (hs:a.spot=none) (v:Value) :
  VO h a v=h.setIfInBounds a.block (.cells (c.setIfInBounds a.off v) e fr):=by
 obtain⟨Zs,Py⟩:=Array.getElem?_eq_some_iff.1 hb
 unfold VO
 apply Array.ext_getElem?
 intro i
 rw[Array.getElem?_modify,Array.getElem?_setIfInBounds]
 by_cases hi:a.block=i
 ·subst hi
  simp[Py,hs,Zs]
 ·simp[hi]
theorem XJ (l:List Value) (n:Nat) (v:Value) (vs:List Value):ZI l n (v :: vs)=ZI (l.set n v) (n+1) vs:=by
 induction l generalizing n with
 | nil=>cases vs<;>simp[ZI]
 | cons x l ih=>
  cases n with
  | zero=>
   simp only[ZI,List.set_cons_zero]
   cases vs with
   | nil=>simp[ZI]
   | cons u us=>simp[ZI]
  | succ n=>
   simp only[ZI,List.set_cons_succ]
   rw[ih]
   cases vs with
   | nil=>simp[ZI]
   | cons u us=>simp[ZI]
theorem Zv {a:Addr} {e:TypeId} {lo hi:Nat} {Q:Unit→Hp→Prop} (hs:a.spot=none) (MT:hi≤lo):∀(vs:List Value) (i:Nat) (h:Hp) (c:Array Value),
  h[a.block]? = some (.cells c e (lo,hi))→a.off+i+vs.length≤c.size→vs.all YW=true →
  Q () (h.setIfInBounds a.block (.cells (ZI c.toList (a.off+i) vs).toArray e (lo,hi)))→hw P (storeCells a vs i) Q h
 | [],i,h,c,hb,_,_,H=>by
  have e:h.setIfInBounds a.block (.cells (ZI c.toList (a.off+i) []).toArray e (lo,hi))=h:=by
   have Zs:=(Array.getElem?_eq_some_iff.1 hb).1
   apply Array.ext_getElem?
   intro j
   rw[Array.getElem?_setIfInBounds]
   by_cases hj:a.block=j
   ·subst hj;rw[if_pos rfl,if_pos Zs,hb];simp[ZI]
   ·simp[hj]
  rw[e]at H
  exact H
 | v :: vs,i,h,c,hb,hlen,JS,H=>by
  simp only[List.all_cons,Bool.and_eq_true]at JS
  simp only[List.length_cons]at hlen
  show hw P (store (a.add i) v >>= fun _=>storeCells a vs (i+1)) Q h
  rw[Za,run_store,Y8 a i hs]
  have Zs:a.block<h.size:=(Array.getElem?_eq_some_iff.1 hb).1
  refine⟨JS.1,?_,?_,?_⟩
  ·unfold hc;simp only[hb]
   refine⟨c[a.off+i]'(by omega),?_⟩
   simp only[Option.isSome_none,Bool.false_eq_true,if_false]
   rw[Array.getElem?_eq_getElem (by omega)]
  ·unfold Pv;simp only[hb];simp;omega
  ·have X4:h[({ block:=a.block,off:=a.off+i,spot:=none }:Addr).block]? = some (.cells c e (lo,hi)):=hb
   rw[Rn X4 rfl]
   have Mj:(h.setIfInBounds a.block (.cells (c.setIfInBounds (a.off+i) v) e (lo,hi)))[a.block]? = some (.cells (c.setIfInBounds (a.off+i) v) e (lo,hi)):=by
    simp[Zs]
   refine Zv hs MT vs (i+1) _ _ Mj (by simp;omega) JS.2 ?_
   have e2:(h.setIfInBounds a.block (.cells (c.setIfInBounds (a.off+i) v) e (lo,hi))).setIfInBounds a.block
     (.cells (ZI (c.setIfInBounds (a.off+i) v).toList (a.off+(i+1)) vs).toArray e (lo,hi)) =
     h.setIfInBounds a.block (.cells (ZI c.toList (a.off+i) (v :: vs)).toArray e (lo,hi)):=by
    rw[XJ,Array.toList_setIfInBounds]
    rw[Array.setIfInBounds_setIfInBounds,Nat.add_assoc]
   rw[e2];exact H
theorem Uw {t:TypeId} {p v:Value} (H:Yi (tn P t) p v K h):hw P (Instr.storeAt t p v) (fun _ h=>K undef h) h:=by
 unfold Yi at H
 split at H
 ·rename_i a n hn
  unfold Instr.storeAt
  rw[Za]
  show hw P (storeVar t a v) _ h
  unfold storeVar
  split at H
  ·rename_i hlen
   have Pc:v.cells.size=n:=by rw[←XE,hlen];simp
   rw[Za,run_sizeOf hn]
   simp only[Pc,ne_eq,not_true_eq_false,if_false]
   show hw P (storeCells a v.cells.toList) _ h
   split at H
   ·rename_i cs
    unfold Vx at H
    split at H
    ·rename_i h' hh
     unfold wr at hh
     split at hh
     ·rename_i c e lo hi hb
      split at hh
      ·rename_i Pz
       obtain⟨h1,h2,h3,h4⟩:=Pz
       simp only[Option.some.injEq]at hh
       subst hh
       exact Zv h1 h3 cs.toList 0 h c hb h2 h4 H
      ·cases hh
     ·cases hh
    ·exact H.elim
   ·rename_i Ia
    have QW:v.cells.toList=[v]:=by cases v<;>first|rfl|exact (Ia _ rfl).elim
    rw[QW]
    unfold Vx at H
    split at H
    ·rename_i h' hh
     unfold We at hh
     split at hh
     ·rename_i c e lo hi hb
      split at hh
      ·rename_i Pz
       obtain⟨h1,h2,h3,h4⟩:=Pz
       simp only[Option.some.injEq]at hh
       subst hh
       refine Zv h1 h3 [v] 0 h c hb (by simp;omega) (by simpa using h4) ?_
       have e1:(ZI c.toList (a.off+0) [v]).toArray=c.setIfInBounds a.off v:=by
        rw[XJ,Nat.add_zero]
        apply Array.toList_inj.1
        rw[Array.toList_setIfInBounds]
        cases h9:(c.toList.set a.off v)<;>simp[ZI]
       rw[e1];exact H
      ·cases hh
     ·cases hh
    ·exact H.elim
  ·exact H.elim
 ·exact H.elim
theorem Ux {t:TypeId} {p:Value} {i:Nat} (H:Xq (tf P t i) p K h):hw P (Instr.fieldAt t p i) K h:=by
 unfold Xq at H
 split at H
 ·rename_i o a hf
  unfold tf at hf
  split at hf
  ·rename_i fs hu
   unfold Instr.fieldAt
   rw[Za,Zc hu]
   cases T0:fs[i]? with
   | none=>rw[T0]at hf;cases hf
   | some f=>
    rw[T0]at hf
    simp only[Option.bind_some]at hf
    split at hf
    ·rename_i m hm
     simp only[Option.some.injEq]at hf
     subst hf
     simp only[T0]
     simp only[Instr.sureAddr,fieldPlace,Za,Zd,run_sizeOf hm,if_neg (Nat.succ_ne_zero m)]
     exact H
    ·cases hf
  ·cases hf
 ·exact H.elim
theorem T1 {t:TypeId} {p i:Value} (H:Pb (Yh P t) (YY P t) (tn P) p i K h):hw P (Instr.indexAt t p i) K h:=by
 unfold Pb at H
 split at H
 ·rename_i k i
  split at H
  ·rename_i len e a ha hs
   split at H
   ·rename_i n hn
    unfold Yh at ha
    split at ha
    ·rename_i m e' hu
     simp only[Option.some.injEq,Prod.mk.injEq]at ha
     obtain⟨rfl,rfl⟩:=ha
     split at H
     ·rename_i hb
      simp only[Instr.indexAt,asIntOf,Instr.sureAddr,Za,Zd,Zc hu,if_pos hb,run_sizeOf hn]
      exact H
     ·exact H.elim
    ·cases ha
   ·exact H.elim
  ·rename_i e a len cap ha hs
   split at H
   ·rename_i n hn
    unfold YY at hs
    split at hs
    ·rename_i e' hu
     simp only[Option.some.injEq]at hs
     subst hs
     split at H
     ·rename_i hb
      simp only[Instr.indexAt,asIntOf,Instr.sureAddr,Za,Zd,Zc hu,if_pos hb,run_sizeOf hn]
      exact H
     ·exact H.elim
    ·cases hs
   ·exact H.elim
  ·exact H.elim
 ·exact H.elim
theorem Qq {v:Value} {i:Nat} (H:Ys v i K h):hw P (Instr.extract v i) K h:=by
 unfold Ys at H
 split at H
 ·rename_i vs
  unfold Jx at H
  split at H
  ·rename_i v hv;simp only[Instr.extract,hv];exact H
  ·exact H.elim
 ·exact H.elim
theorem Wo {x:Operand} {f:Value} {c:Call} {args:List Value} (hc:c.callee=.value x) (hf:ev F x=f) (ha:(c.args.map (ev F)).toList=args) (H:Jm P T f args K h) :
  hw P (do let d ←resolve (ev F) c ty;invoke d.target d.args) (ZQ P T K) h:=by
 unfold Jm at H
 split at H
 ·rename_i f first captured
  have e:first++c.args.map (ev F)++captured=(first.toList++args++captured.toList).toArray:=by rw[←ha];simp
  by_cases hg:goes P f=true
  case neg=>
   rw[if_neg hg]at H
   simp only[resolve,hc,hf,Deferred.ofValue,Za,Zd,invoke]
   rw[e]
   exact H
  rw[if_pos hg]at H
  unfold goes at hg
  split at hg
  ·rename_i fn Ro
   simp only[Bool.and_eq_true,Bool.not_eq_true']at hg
   have OQ:fn.body.isNone=false:=by
    cases hb:fn.body with
    | none=>rw[hb]at hg;simp at hg
    | some _=>rfl
   simp only[resolve,hc,hf,Deferred.ofValue,Za,Zd,invoke,callFunc,Wm,Ro,hg.1,Bool.false_eq_true,if_false,OQ]
   rw[e]
   exact H
  ·cases hg
 ·exact H.elim
theorem JI {t:TypeId} {z:List Value} (hz:tz P t=some z):∃v,v.cells=z.toArray∧∀{Q:Value→Hp→Prop} {h:Hp},hw P (zeroValue t) Q h=Q v h:=by
 unfold tz at hz
 cases hi:P.info? t with
 | none=>rw[hi]at hz;cases hz
 | some i=>
  rw[hi]at hz
  cases Wp:i.zero with
  | none=>rw[Option.bind_some,Wp]at hz;cases hz
  | some v=>
   rw[Option.bind_some,Wp]at hz
   simp only[Option.map_some,Option.some.injEq]at hz
   refine⟨v,by rw[←hz,Array.toArray_toList],fun {Q h}=>?_⟩
   unfold zeroValue
   rw[Za,ZC hi]
   simp only[Wp]
   rfl
theorem QH (off:Nat):∀(vs:List Value) (k:Nat) (cells:Array Value),
  ((vs.zipIdx k).foldl (fun (cs:Array Value) (x:Value × Nat)=>cs.setIfInBounds (off+x.2) x.1) cells).toList=ZI cells.toList (off+k) vs
 | [],k,cells=>by cases h:cells.toList<;>simp[ZI,h]
 | v :: vs,k,cells=>by
  rw[List.zipIdx_cons,List.foldl_cons,QH off vs (k+1),XJ,Array.toList_setIfInBounds,Nat.add_assoc]
theorem JJ {place:Nat→Option (Nat × Nat)}:∀(parts:List (Nat × Value)) (cs:List Value) (Mk:List Value),Z9 place cs parts=some Mk→Instr.fill place cs.toArray parts=some Mk.toArray
 | [],cs,Mk,h=>by simp only[Z9,Option.some.injEq]at h;subst h;rfl
 | (i,v) :: l,cs,Mk,h=>by
  unfold Z9 at h
  unfold Instr.fill
  cases hp:place i with
  | none=>rw[hp]at h;cases h
  | some os=>
   obtain⟨o,s⟩:=os
   rw[hp]at h
   simp only at h ⊢
   split at h
   ·rename_i hc
    have Pc:v.cells.size=s:=by rw[←XE];simpa using hc.1
    have XI:¬((decide (v.cells.size≠s)||decide (o+v.cells.size>cs.toArray.size))=true):=by
     rw[Pc];simp;omega
    rw[if_neg XI]
    have e:(v.cells.zipIdx.foldl (fun (cs:Array Value) (x:Value × Nat)=>cs.setIfInBounds (o+x.2) x.1) cs.toArray)=(ZI cs o (cl v)).toArray:=by
     apply Array.toList_inj.1
     have:=QH o (cl v) 0 cs.toArray
     rw[←XE,Array.zipIdx,←Array.foldl_toList]
     have e3:(cl v).mapIdx (fun i a=>(a,i))=(cl v).zipIdx 0:=by
      apply List.ext_getElem?
      intro i
      simp[List.getElem?_zipIdx]
     simpa [Array.zipIdx,e3] using this
    have key:=JJ l _ _ h
    rw[←e]at key
    exact key
   ·cases h
theorem Yt {α:Type} (l:List α) (n:Nat):nth l n=l[n]?:=by
 induction l generalizing n with
 | nil=>simp[nth]
 | cons x l ih=>cases n<;>simp[nth,ih]
theorem VA (F:Env) (l:List (Nat × Operand)):Wk F l=l.map fun x=>(x.1,ev F x.2):=by
 induction l with
 | nil=>rfl
 | cons x l ih=>obtain⟨i,x⟩:=x;simp[Wk,ih]
theorem run_places:∀(l:List Field) (Q:List (Nat × Nat)→Hp→Prop) (pl:List (Nat × Nat)),l.mapM (fun f:Field=>(tn P f.type).map fun n=>(f.offset,n))=some pl →
  Q pl h→hw P (l.mapM fun f:Field=>do pure (f.offset,←sizeOf f.type)) Q h
 | [],Q,pl,hp,H=>by
  simp only[List.mapM_nil,pure,Option.some.injEq]at hp
  subst hp
  exact H
 | f :: l,Q,pl,hp,H=>by
  rw[List.mapM_cons]at hp
  cases hn:tn P f.type with
  | none=>rw[hn]at hp;cases hp
  | some n=>
   rw[hn]at hp
   cases hl:l.mapM (fun f:Field=>(tn P f.type).map fun n=>(f.offset,n)) with
   | none=>simp[hl]at hp
   | some Ib=>
    simp[hl]at hp
    subst hp
    rw[List.mapM_cons,Za,Za,run_sizeOf hn]
    show hw P (_ >>= _) Q h
    rw[Za]
    exact run_places l _ Ib hl H
theorem Uy {t:TypeId} {parts:Array (Nat × Operand)} (H:Xr (tz P t) (Ov P t) (Yh P t) (tn P) (Wk F parts.toList) K h):hw P (Instr.build t (parts.map fun (i,x)=>(i,ev F x))) K h:=by
 have e1:(parts.map fun (i,x)=>(i,ev F x)).toList=Wk F parts.toList:=by rw[VA,Array.toList_map]
 unfold Instr.build
 rw[e1]
 unfold Xr at H
 split at H
 ·rename_i z pl hz Oz _
  obtain⟨v,hv,PA⟩:=JI hz
  rw[Za,PA,Za,hv]
  unfold Ov at Oz
  split at Oz
  ·rename_i fs hu
   rw[Zc hu]
   simp only
   rw[Za,←Array.toArray_toList (xs:=fs),List.mapM_toArray,map_eq_pure_bind,Za]
   refine run_places fs.toList _ pl Oz ?_
   unfold JR at H
   split at H
   ·rename_i cs Ye
    have e2:(fun i=>pl.toArray[i]?)=nth pl:=by funext i;rw[Yt];simp
    have:=JJ _ _ _ Ye
    rw[←e2]at this
    simp only[Zd,this]
    exact H
   ·exact H.elim
  ·cases Oz
 ·rename_i z n e hz _ ha
  obtain⟨v,hv,PA⟩:=JI hz
  rw[Za,PA,Za,hv]
  unfold Yh at ha
  split at ha
  ·rename_i n' e' hu
   simp only[Option.some.injEq,Prod.mk.injEq]at ha
   obtain⟨rfl,rfl⟩:=ha
   rw[Zc hu]
   simp only
   unfold JG at H
   split at H
   ·rename_i m hm
    rw[Za,run_sizeOf hm]
    unfold JR at H
    split at H
    ·rename_i cs Ye
     have:=JJ _ _ _ Ye
     have e2:(fun i=>some (i*m,m))=XG m:=rfl
     rw[e2]
     simp only[this]
     exact H
    ·exact H.elim
   ·exact H.elim
  ·cases ha
 ·exact H.elim
theorem VB (z:List Value) (hz:z≠[]):∀(len:Nat),(Array.range (len*z.length)).map (fun j=>z.toArray[j%z.toArray.size]!)=(Yn len z).toArray:=by
 have Wq:0<z.length:=List.length_pos_iff.2 hz
 have hlen:∀len,(Yn len z).length=len*z.length:=by
  intro len
  induction len with
  | zero=>simp[Yn]
  | succ n ih=>simp[Yn,ih,Nat.add_mul,Nat.add_comm]
 have Py:∀len j,j<len*z.length→(Yn len z)[j]? = z[j%z.length]?:=by
  intro len
  induction len with
  | zero=>intro j hj;simp at hj
  | succ n ih=>
   intro j hj
   simp only[Yn]
   by_cases Mi:j<z.length
   ·rw[List.getElem?_append_left Mi,Nat.mod_eq_of_lt Mi]
   ·rw[List.getElem?_append_right (by omega),ih (j-z.length) (by rw[Nat.add_mul]at hj;omega)]
    rw[Nat.mod_eq_sub_mod (by omega:j ≥ z.length)]
 intro len
 apply Array.ext_getElem?
 intro j
 by_cases hj:j<len*z.length
 ·have MU:j%z.length<z.length:=Nat.mod_lt _ Wq
  simp[hj,Py len j hj,MU]
 ·have h2:(Yn len z)[j]? = none:=List.getElem?_eq_none (by rw[hlen];omega)
  simp[hj,h2]
theorem Y0 (z:List Value):∀n,(Yn n z).length=n*z.length:=by
 intro len
 induction len with
 | zero=>simp[Yn]
 | succ n ih=>simp[Yn,ih,Nat.add_mul,Nat.add_comm]
theorem QI:∀(parts:List (Nat × Value)) (pre vs rest:List Value),Wl pre.length parts=some vs→rest.length=parts.length→Z9 (XG 1) (pre++rest) parts=some (pre++vs)
 | [],pre,vs,rest,h,hl=>by
  simp only[Wl,Option.some.injEq]at h
  subst h
  have:rest=[]:=List.eq_nil_of_length_eq_zero (by simpa using hl)
  simp[Z9,this]
 | (i,v) :: l,pre,vs,rest,h,hl=>by
  unfold Wl at h
  split at h
  ·rename_i hc
   obtain⟨rfl,hv⟩:=hc
   cases hs:Wl (pre.length+1) l with
   | none=>rw[hs]at h;cases h
   | some us=>
    rw[hs]at h
    simp only[Option.map_some,Option.some.injEq]at h
    subst h
    cases rest with
    | nil=>simp at hl
    | cons r rest=>
     have ZR:cl v=[v]:=by cases v<;>first|rfl|(simp[YW]at hv)
     have e1:ZI (pre++r :: rest) pre.length [v]=(pre++[v])++rest:=by
      rw[XJ]
      simp[ZI]
     have ih:=QI l (pre++[v]) us rest (by simpa using hs) (by simpa using hl)
     simp only[Z9,XG,ZR,Nat.mul_one,List.length_cons,List.length_nil,List.length_append]
     rw[if_pos (by simp),e1,ih]
     simp
  ·cases h
theorem Qr {t:TypeId} {len:Nat} {parts:Array (Nat × Operand)} (H:XH (YY P t) (tn P) (tz P) len (Wk F parts.toList) K h):hw P (Instr.buildSlice t len (parts.map fun (i,x)=>(i,ev F x))) K h:=by
 have e1:(parts.map fun (i,x)=>(i,ev F x)).toList=Wk F parts.toList:=by rw[VA,Array.toList_map]
 unfold Instr.buildSlice
 rw[e1]
 unfold XH at H
 split at H
 ·rename_i e he
  unfold YY at he
  split at he
  ·rename_i e' hu
   simp only[Option.some.injEq]at he
   subst he
   unfold Y6 at H
   split at H
   ·rename_i n z hn hz
    split at H
    ·rename_i hc
     obtain⟨VW,hle⟩:=hc
     unfold Vy at H
     split at H
     ·rename_i l hl
      have OR:Z9 (XG n) (Yn len z) (Wk F parts.toList)=some l:=by
       unfold JH at hl
       split at hl
       ·rename_i hc
        obtain⟨rfl,Oz⟩:=hc
        have:=QI (Wk F parts.toList) [] l (Yn len z) hl (by rw[Y0,VW,Oz,Nat.mul_one])
        simpa using this
       ·exact hl
      rw[Za,Zc hu]
      simp only
      rw[Za,run_sizeOf hn,if_neg (by omega)]
      have fin:∀z':Array Value,(Array.range (len*n)).map (fun j=>z'[j%z'.size]!)=(Yn len z).toArray→hw P (match Instr.fill (fun i=>some (i*n,n)) ((Array.range (len*n)).map (fun j=>z'[j%z'.size]!)) (Wk F parts.toList) with
        | some cells=>do
         let a ←newRow e' cells
         pure (Value.slice (some a) len len)
        | x=>stuck "buildSlice: a part of the wrong size") K h:=by
       intro z' OS
       have:=JJ _ _ _ OR
       have e2:(fun i=>some (i*n,n))=XG n:=rfl
       rw[e2,OS]
       simp only[this]
       exact H
      split
      ·rename_i h0
       refine fin #[] ?_
       have:(Yn len z).length=0:=by rw[Y0,VW,h0]
       rw[List.eq_nil_of_length_eq_zero this,h0]
       simp
      ·rename_i h0
       obtain⟨v,hv,hr⟩:=JI hz
       rw[Za,hr]
       refine fin v.cells ?_
       have:z≠[]:=by intro e;subst e;simp at VW;subst VW;simp at h0
       rw[hv,←VW]
       exact VB z this len
     ·exact H.elim
    ·exact H.elim
   ·exact H.elim
  ·cases he
 ·exact H.elim
theorem JT {t:TypeId} {cs:Array Value} {o:Nat} (H:Jn (ta P t) (tn P t) cs.toList o K h):hw P (part t cs o) K h:=by
 unfold Jn at H
 unfold part
 rw[Za]
 split at H
 ·rename_i n ha hn
  rw[Y7 ha,if_pos rfl,Za,run_sizeOf hn]
  have e:(cs.extract o (o+n))=((cs.toList.drop o).take n).toArray:=by
   apply Array.toList_inj.1
   simp[List.extract_eq_take_drop]
  rw[e]
  exact H
 ·rename_i ha
  rw[Y7 ha,if_neg (by simp)]
  unfold Jx at H
  split at H
  ·rename_i v hv
   rw[Yt]at hv
   have:cs[o]? = some v:=by rw[←Array.getElem?_toList];exact hv
   simp only[this]
   exact H
  ·exact H.elim
 ·exact H.elim
theorem VX {t:TypeId} {x:Value} {i:Nat} (H:TY (Mg P t i) (ta P) (tn P) x K h):hw P (Instr.field t x i) K h:=by
 unfold TY at H
 split at H
 ·rename_i o ft cs hf
  unfold Mg at hf
  split at hf
  ·rename_i fs hu
   unfold Instr.field
   rw[Za,Zc hu]
   cases T0:fs[i]? with
   | none=>rw[T0]at hf;cases hf
   | some f=>
    rw[T0]at hf
    simp only[Option.map_some,Option.some.injEq,Prod.mk.injEq]at hf
    obtain⟨rfl,rfl⟩:=hf
    simp only[T0]
    exact JT H
  ·cases hf
 ·exact H.elim
theorem VY {t:TypeId} {x i:Value} (H:VV (Yh P t) (Jw P t) (ta P) (tn P) x i K h):hw P (Instr.index t x i) K h:=by
 unfold VV at H
 split at H
 ·rename_i k i
  split at H
  ·rename_i len e cs ha _
   unfold Yh at ha
   split at ha
   ·rename_i n' e' hu
    simp only[Option.some.injEq,Prod.mk.injEq]at ha
    obtain⟨rfl,rfl⟩:=ha
    unfold Vz at H
    split at H
    ·rename_i m hm
     split at H
     ·rename_i hc
      unfold Instr.index
      simp only[asIntOf,Za,Zd,Zc hu,if_pos hc,run_sizeOf hm]
      exact JT (by rw[hm];exact H)
     ·exact H.elim
    ·exact H.elim
   ·cases ha
  ·rename_i s _ hs
   unfold Jw at hs
   split at hs
   ·rename_i hu
    split at H
    ·rename_i hc
     unfold Instr.index
     have Zs:i.toNat<s.size:=by omega
     have e:s[i.toNat]? = some s[i.toNat]:=by exact getElem?_pos s i.toNat Zs
     have e2:s.data.toList.getD i.toNat 0=s[i.toNat]:=by
      have MV:i.toNat<s.data.toList.length:=by simpa using Zs
      rw[List.getD_eq_getElem?_getD,List.getElem?_eq_getElem MV,Option.getD_some]
      rfl
     simp only[asIntOf,Za,Zd,Zc hu,if_pos hc.1,e]
     rw[e2]at H
     exact H
    ·exact H.elim
   ·cases hs
  ·exact H.elim
 ·exact H.elim
theorem JU {x:Option Value} {v:Value} {y n:Nat} {c:BoundsCode} (hx:x=some v) (hs:sb x 0 y=some n) {Q:Nat→Hp→Prop}:hw P (Instr.sliceBound v y c) Q h=Q n h:=by
 subst hx
 unfold sb at hs
 split at hs
 ·rename_i he;cases he
 ·rename_i k i he
  simp only[Option.some.injEq]at he
  subst he
  split at hs
  ·rename_i hc
   simp only[Option.some.injEq]at hs
   subst hs
   unfold Instr.sliceBound
   simp only[asIntOf,Za,Zd,if_pos hc]
  ·cases hs
 ·cases hs
theorem Xs {MW:Bool} {len cap b l:Nat} {lo hi:Option Value} (hb:sb hi len cap=some b) (hl:sb lo 0 b=some l) {Q:Nat × Nat × Nat→Hp→Prop} (H:Q (l,b,cap) h):hw P (Instr.sliceBounds MW len cap lo hi none) Q h:=by
 have h2:∀{c:BoundsCode},hw P (match lo with
   | some v=>do
    let l ←Instr.sliceBound v b c
    pure (l,b,cap)
   | none=>do
    let l ←pure 0
    pure (l,b,cap)) Q h:=by
  intro c
  cases lo with
  | none=>simp only[sb,Option.some.injEq]at hl;subst hl;exact H
  | some v=>
   simp only
   rw[Za,JU rfl hl]
   exact H
 unfold Instr.sliceBounds
 rw[Za]
 show hw P (pure cap) _ h
 rw[Zd]
 cases hi with
 | none=>
  simp only[sb,Option.some.injEq]at hb
  subst hb
  exact h2
 | some v=>
  have X4:sb (some v) 0 cap=some b:=by unfold sb at hb ⊢;cases v<;>simp at hb ⊢<;>exact hb
  simp only
  rw[Za,JU rfl X4]
  exact h2
theorem Uz {MW:Bool} {len cap m b l:Nat} {lo:Option Value} {hv mv:Value} (hm:sb (some mv) 0 cap=some m) (hb:sb (some hv) len m=some b) (hl:sb lo 0 b=some l) {Q:Nat × Nat × Nat→Hp→Prop} (H:Q (l,b,m) h):hw P (Instr.sliceBounds MW len cap lo (some hv) (some mv)) Q h:=by
 have X4:sb (some hv) 0 m=some b:=by unfold sb at hb ⊢;cases hv<;>simp at hb ⊢<;>exact hb
 unfold Instr.sliceBounds
 rw[Za]
 show hw P (Instr.sliceBound mv cap _) _ h
 rw[JU rfl hm,Za,JU rfl X4]
 cases lo with
 | none=>simp only[sb,Option.some.injEq]at hl;subst hl;exact H
 | some v=>
  show hw P (Instr.sliceBound v b _ >>= _) _ h
  rw[Za,JU rfl hl]
  exact H
theorem VZ {t:TypeId} {x:Value} {lo hi mx:Option Operand} (H:QV (Yh P t) (YY P t) (Jw P t) (tn P) x (TZ F lo) (TZ F hi) (TZ F mx) K h):hw P (Instr.sliceAt t x (lo.map (ev F)) (hi.map (ev F)) (mx.map (ev F))) K h:=by
 have e:∀o,TZ F o=o.map (ev F):=fun o=>by cases o<;>rfl
 rw[e,e,e]at H
 generalize lo.map (ev F)=lo at *
 generalize hi.map (ev F)=hi at *
 generalize mx.map (ev F)=mx at *
 unfold QV at H
 split at H
 ·rename_i mv a len cap e ha hs
  unfold YY at hs
  split at hs
  ·rename_i e' hu
   simp only[Option.some.injEq]at hs
   subst hs
   split at H
   ·rename_i hv m hm
    unfold YT at H
    split at H
    ·rename_i n b hn hb
     split at H
     ·rename_i l hl
      unfold Instr.sliceAt
      rw[Za,Zc hu]
      simp only
      unfold Instr.slice
      rw[Za,Zc hu]
      simp only
      rw[Za]
      refine Uz hm hb hl ?_
      simp only[Za,run_sizeOf hn,Zd]
      exact H
     ·exact H.elim
    ·exact H.elim
   ·exact H.elim
  ·cases hs
 ·rename_i a len cap e ha hs
  unfold YY at hs
  split at hs
  ·rename_i e' hu
   simp only[Option.some.injEq]at hs
   subst hs
   unfold YT at H
   split at H
   ·rename_i n b hn hb
    split at H
    ·rename_i l hl
     unfold Instr.sliceAt
     rw[Za,Zc hu]
     simp only
     unfold Instr.slice
     rw[Za,Zc hu]
     simp only
     rw[Za]
     refine Xs hb hl ?_
     simp only[Za,run_sizeOf hn,Zd]
     exact H
    ·exact H.elim
   ·exact H.elim
  ·cases hs
 ·rename_i a len e ha hs
  unfold Yh at ha
  split at ha
  ·rename_i n' e' hu
   simp only[Option.some.injEq,Prod.mk.injEq]at ha
   obtain⟨rfl,rfl⟩:=ha
   unfold YT at H
   split at H
   ·rename_i n b hn hb
    split at H
    ·rename_i l hl
     unfold Instr.sliceAt
     rw[Za,Zc hu]
     simp only[Instr.sureAddr,Za,Zd]
     refine Xs hb hl ?_
     simp only[Za,run_sizeOf hn,Zd]
     have e3:(if n'=l then some a else (some a).map (·.add (l*n)))=some (if n'=l then a else a.add (l*n)):=by split<;>rfl
     rw[e3]at H
     exact H
    ·exact H.elim
   ·exact H.elim
  ·cases ha
 ·rename_i s ha hs MX
  unfold Jw at MX
  split at MX
  ·rename_i hu
   split at H
   ·rename_i b hb
    split at H
    ·rename_i l hl
     unfold Instr.sliceAt
     rw[Za,Zc hu]
     simp only
     unfold Instr.slice
     rw[Za,Zc hu]
     simp only[Option.isSome_none,Bool.false_eq_true,if_false]
     rw[Za]
     refine Xs hb hl ?_
     exact H
    ·exact H.elim
   ·exact H.elim
  ·cases MX
 ·exact H.elim
theorem T2 {t:TypeId} {l c:Value} (H:Mh (YY P t) (tn P) (tb P) (tz P) l c K h):hw P (Instr.makeSlice t l c) K h:=by
 unfold Mh at H
 split at H
 ·rename_i e k l k' c he
  unfold YY at he
  split at he
  ·rename_i e' hu
   simp only[Option.some.injEq]at he
   subst he
   unfold Rm at H
   split at H
   ·rename_i n bytes z hn Xx hz
    split at H
    ·rename_i hc
     obtain⟨VW,h0,Kg,Ic,YU⟩:=hc
     obtain⟨i0,Qm⟩:∃i,P.info? e'=some i:=by
      unfold tn at hn
      cases hi:P.info? e' with
      | none=>rw[hi]at hn;cases hn
      | some i=>exact⟨i,rfl⟩
     have V0:i0.bytes=bytes:=by unfold tb at Xx;rw[Qm]at Xx;simpa using Xx
     have w1:IntKind.i64.wrap l=l:=IntWalk.i64_in l ⟨by omega,by omega⟩
     have w2:IntKind.i64.wrap c=c:=IntWalk.i64_in c ⟨by omega,by omega⟩
     have UA:¬((bytes:Int)*c>2 ^ 48):=by omega
     unfold Instr.makeSlice
     simp only[Za,Zc hu,asInt,asIntOf,Zd,ZC Qm,w1,w2,V0]
     have XI:¬((decide (c<0)||decide ((bytes:Int)*c>2 ^ 48)||decide (l<0)||decide (l>c))=true):=by
      simp;omega
     rw[if_neg XI]
     have QX:∀{Q:Unit→Hp→Prop} (b:Nat) (g:Hp),Q () g→hw P (askRoom b) Q g:=fun {Q} b g q=>by
      unfold askRoom;split<;>exact q
     rw[Za]
     refine QX _ _ ?_
     rw[Za,run_sizeOf hn]
     have fin:∀z':Array Value,(Array.range (c.toNat*n)).map (fun j=>z'[j%z'.size]!)=(Yn c.toNat z).toArray→hw P (do
       let a ←newRow e' ((Array.range (c.toNat*n)).map (fun j=>z'[j%z'.size]!))
       pure (Value.slice (some a) l.toNat c.toNat)) K h:=by
      intro z' OS
      rw[OS]
      exact H
     split
     ·rename_i h0
      refine fin #[] ?_
      have:(Yn c.toNat z).length=0:=by rw[Y0,VW,h0]
      rw[List.eq_nil_of_length_eq_zero this,h0]
      simp
     ·rename_i h0
      obtain⟨v,hv,hr⟩:=JI hz
      rw[Za,hr]
      refine fin v.cells ?_
      have:z≠[]:=by intro e;subst e;simp at VW;subst VW;simp at h0
      rw[hv,←VW]
      exact VB z this c.toNat
    ·exact H.elim
   ·exact H.elim
  ·cases he
 ·exact H.elim
theorem UB {op:Op} (H:Xc P T op ty K F h):Us P T ⟨none,op,ty, "", #[],none⟩ K F h:=by
 have lift:∀{s:Sem Value},hw P s K h→hw P (do pure (Next.value (←s))) (ZQ P T K) h:=fun {s} H=>by rw[Za];exact H
 unfold Xc at H
 split at H
 ·exact H
 ·exact H
 ·rename_i c a b
  show hw P (do pure (.value (if ←asBool (ev F c) then ev F a else ev F b))) (ZQ P T K) h
  unfold QG at H
  split at H
  ·rename_i t ht
   rw[ht];cases t<;>exact H
  ·exact H.elim
 ·rename_i e
  refine lift ?_
  unfold TX tz at H
  split at H
  ·rename_i l hl
   cases hi:P.info? e with
   | none=>rw[hi]at hl;cases hl
   | some i=>
    rw[hi]at hl
    cases hz:i.zero with
    | none=>rw[Option.bind_some,hz]at hl;cases hl
    | some z=>
     rw[Option.bind_some,hz]at hl
     simp only[Option.map_some,Option.some.injEq]at hl
     subst hl
     simp only[Instr.alloc,zeroValue,Za,ZC hi,hz,newVar,newRow,newObj,Zd,hw]
     simpa using H
  ·exact H.elim
 ·rename_i e x
  refine lift ?_
  simp only[TX,XE]at H
  simp only[Instr.box,newVar,newRow,newObj,Za,Zd]
  exact H
 ·exact lift (Wn H)
 ·refine (?_:hw P (do Instr.storeAt _ _ _;pure Next.skip) (ZQ P T K) h)
  rw[Za]
  exact Uw H
 ·exact lift (Ux H)
 ·exact lift (T1 H)
 ·rename_i x
  unfold Wj at H
  split at H
  ·rename_i a hx
   show hw P (match ev F x with|.pointer none|.nilIface|.nilFunc=>_|.func (.method name) first captured=>_|x=>_) _ h
   rw[hx];exact H
  ·rename_i f a b hx
   show hw P (match ev F x with|.pointer none|.nilIface|.nilFunc=>_|.func (.method name) first captured=>_|x=>_) _ h
   rw[hx];exact H
  ·exact H.elim
 ·exact lift H
 ·exact lift H
 ·exact lift H
 ·exact lift (Qq H)
 ·rename_i fn first captured
  refine lift ?_
  have e1:∀l:Array Operand,l.map (ev F)=(TN F l.toList).toArray:=fun l=>by rw[QU,←Array.toList_map]
  show hw P (Instr.makeFunc fn (first.map (ev F)) (captured.map (ev F))) K h
  rw[e1,e1];exact H
 ·rename_i f args ts
  exact Wo (x:=f) (c:=⟨.value f,args,ts⟩) rfl rfl (by rw[QU];simp) H
 ·rename_i b args ts
  have e1:args.map (ev F)=(TN F args.toList).toArray:=by rw[QU,←Array.toList_map]
  unfold Ql at H
  rw[←e1]at H
  exact H
 ·exact lift (Uy H)
 ·exact lift (Qr H)
 ·exact lift (VX H)
 ·exact lift (VY H)
 ·exact lift (VZ H)
 ·exact lift (T2 H)
 ·exact H
theorem ZF {o:Oper} (H:Xc P T o.op o.type K F h):Us P T o K F h:=UB H
def Yu:List Oper→Env→Nat→Value
 | [],_,_=>undef
 | o :: _,F,0=>match o.dst with|some t=>F t|none=>undef
 | _ :: l,F,n+1=>Yu l F n
def ZJ (v:Value) (b:Bool) (A B:Prop):Prop:=match v with|.bool c=>if c=b then A else B|_=>B
def XK (P:Program) (T:World) (ops:List Oper) (N:Env→Hp→Prop):List Oper→Env→Hp→Prop
 | [],F,h=>N F h
 | ⟨d,op,ty,_,_,none⟩ :: l,F,h=>Xc P T op ty (fun v h'=>XK P T ops N l (Zi F d v) h') F h
 | ⟨d,op,ty,_,_,some (j,b)⟩ :: l,F,h=>ZJ (Yu ops F j) b (Xc P T op ty (fun v h'=>XK P T ops N l (Zi F d v) h') F h) (XK P T ops N l (Zi F d undef) h)
theorem Qs (ops:List Oper) (F:Env):∀j,Z8 ops.toArray F j=match Yu ops F j with|.bool b=>some b|_=>none:=by
 intro j
 unfold Z8
 rw[List.getElem?_toArray]
 induction ops generalizing j with
 | nil=>rfl
 | cons o l ih=>
  cases j with
  | zero=>simp only[List.getElem?_cons_zero,Option.bind_some,Yu];cases o.dst<;>rfl
  | succ j=>simp only[List.getElem?_cons_succ,Yu];exact ih j
theorem Zo (ops:List Oper) (F:Env) (d:Option Tmp) (op:Op) (pos:String) (Yf:Array Edge) (j:Nat) (b:Bool) {A B:Prop} (H:ZJ (Yu ops F j) b A B) :
  (Zh ops.toArray ⟨d,op,ty,pos,Yf,some (j,b)⟩ F=true∧A)∨(Zh ops.toArray ⟨d,op,ty,pos,Yf,some (j,b)⟩ F=false∧B):=by
 unfold Zh Region.wanted
 simp only[Qs]
 unfold ZJ at H
 split at H
 ·rename_i c hc
  split at H
  ·rename_i VC;exact .inl ⟨by simp[VC],H⟩
  ·rename_i VC;exact .inr ⟨by simpa using VC,H⟩
 ·rename_i Z1
  refine .inr ⟨?_,H⟩
  cases hv:Yu ops F j<;>first|rfl|exact (Z1 _ hv).elim
theorem ZU {op:Op} {K':Value→Hp→Prop} (hk:∀v h,K v h→K' v h) (H:Xc P T op ty K F h):Us P T ⟨none,op,ty, "", #[],none⟩ K' F h:=XA hk (UB H)
theorem Yo {ops:List Oper} {N:Env→Hp→Prop}:∀(l:List Oper) (F:Env) (h:Hp),XK P T ops N l F h→VP P T ops.toArray N l F h
 | [],F,h,H=>H
 | ⟨d,op,ty,pos,Yf,none⟩ :: l,F,h,H=>by
  show (if Zh ops.toArray _ F=true then _ else _)
  rw[if_pos (by rfl)]
  exact ZU (fun v h' q=>Yo l _ _ q) H
 | ⟨d,op,ty,pos,Yf,some (j,b)⟩ :: l,F,h,H=>by
  show (if Zh ops.toArray _ F=true then _ else _)
  rcases Zo ops F d op pos Yf j b H with⟨hw,H⟩|⟨hw,H⟩
  ·rw[if_pos hw]
   exact ZU (fun v h' q=>Yo l _ _ q) H
  ·rw[hw,if_neg (by simp)]
   exact Yo l _ _ H
def YJ (P:Program) (T:World) (ops:List Oper) (S:Hp→Prop) (N:Env→Hp→Prop):List (Nat × Bool × Oper)→Env→Hp→Prop
 | [],F,h=>N F h
 | (_,true,⟨d,op,ty,_,_,none⟩) :: l,F,h=>∃v,(∀h',S h'→Xc P T op ty (fun v' X3=>v'=v∧X3=h') F h')∧YJ P T ops S N l (Zi F d v) h
 | (_,false,⟨d,op,ty,_,_,none⟩) :: l,F,h=>Xc P T op ty (fun v h'=>S h'∧YJ P T ops S N l (Zi F d v) h') F h
 | (_,true,⟨d,op,ty,_,_,some (j,b)⟩) :: l,F,h=>ZJ (Yu ops F j) b (∃v,(∀h',S h'→Xc P T op ty (fun v' X3=>v'=v∧X3=h') F h')∧YJ P T ops S N l (Zi F d v) h) (YJ P T ops S N l (Zi F d undef) h)
 | (_,false,⟨d,op,ty,_,_,some (j,b)⟩) :: l,F,h=>ZJ (Yu ops F j) b (Xc P T op ty (fun v h'=>S h'∧YJ P T ops S N l (Zi F d v) h') F h) (YJ P T ops S N l (Zi F d undef) h)
theorem Zw {ops:List Oper} {S:Hp→Prop} {N:Env→Hp→Prop}:∀(l:List (Nat × Bool × Oper)) (F:Env) (h:Hp),YJ P T ops S N l F h→XC P T ops.toArray S N l F h
 | [],F,h,H=>H
 | (i,true,⟨d,op,ty,pos,Yf,none⟩) :: l,F,h,H=>by
  show (if Zh ops.toArray _ F=true then _ else _)
  rw[if_pos (by rfl)]
  obtain⟨v,hv,H⟩:=H
  exact⟨v,fun h' hs=>ZF (hv h' hs),Zw l _ _ H⟩
 | (i,false,⟨d,op,ty,pos,Yf,none⟩) :: l,F,h,H=>by
  show (if Zh ops.toArray _ F=true then _ else _)
  rw[if_pos (by rfl)]
  exact ZU (fun v h' q=>⟨q.1,Zw l _ _ q.2⟩) H
 | (i,true,⟨d,op,ty,pos,Yf,some (j,b)⟩) :: l,F,h,H=>by
  show (if Zh ops.toArray _ F=true then _ else _)
  rcases Zo ops F d op pos Yf j b H with⟨hw,H⟩|⟨hw,H⟩
  ·rw[if_pos hw]
   obtain⟨v,hv,H⟩:=H
   exact⟨v,fun h' hs=>ZF (hv h' hs),Zw l _ _ H⟩
  ·rw[hw,if_neg (by simp)]
   exact Zw l _ _ H
 | (i,false,⟨d,op,ty,pos,Yf,some (j,b)⟩) :: l,F,h,H=>by
  show (if Zh ops.toArray _ F=true then _ else _)
  rcases Zo ops F d op pos Yf j b H with⟨hw,H⟩|⟨hw,H⟩
  ·rw[if_pos hw]
   exact ZU (fun v h' q=>⟨q.1,Zw l _ _ q.2⟩) H
  ·rw[hw,if_neg (by simp)]
   exact Zw l _ _ H
theorem VS.PB {n:Nat} {N:Env→Hp→Prop} {X:Nat→Env→Hp→Prop} {R:Env→Hp→Prop} {id:Nat} {ops:List Oper} (hm:P.follows .mixedOrders=true) (ZW:YI n ops.toArray ((List.range ops.toArray.size).map fun i=>(i,true))=true)
  (H:YJ P T ops (fun h'=>h'=h) N (ops.map fun o=>(0,true,o)) F h):VS P n T (.region id ops.toArray true) N X R F h:=by
 refine VS.quiet hm ZW ?_
 have key:∀(l:List Oper) (k:Nat) (F:Env),(∀j,l[j]? = ops[k+j]?)→YJ P T ops (fun h'=>h'=h) N (l.map fun o=>(0,true,o)) F h →
   YJ P T ops (fun h'=>h'=h) N (Yg ops.toArray ((List.range' k l.length).map fun i=>(i,true))) F h:=by
  intro l
  induction l with
  | nil=>intro k F _ H;exact H
  | cons o l ih=>
   intro k F hl H
   have h0:ops[k]? = some o:=by simpa using (hl 0).symm
   have Pd:∀j,l[j]? = ops[k+1+j]?:=fun j=>by have:=hl (j+1);simpa [Nat.add_assoc,Nat.add_comm 1 j] using this
   have e:Yg ops.toArray ((List.range' k (o :: l).length).map fun i=>(i,true))=(k,true,o) :: Yg ops.toArray ((List.range' (k+1) l.length).map fun i=>(i,true)):=by
    simp[Yg,List.range'_succ,h0]
   rw[e]
   obtain⟨d,op,ty,pos,Yf,g⟩:=o
   cases g with
   | none=>
    obtain⟨v,hv,H⟩:=H
    exact⟨v,hv,ih (k+1) _ Pd H⟩
   | some jb=>
    obtain⟨j,b⟩:=jb
    simp only[List.map_cons,YJ]at H ⊢
    unfold ZJ at *
    split at H
    ·split at H
     ·rename_i VC
      rw[if_pos VC]
      obtain⟨v,hv,H⟩:=H
      exact⟨v,hv,ih (k+1) _ Pd H⟩
     ·rename_i VC
      rw[if_neg VC]
      exact ih (k+1) _ Pd H
    ·exact ih (k+1) _ Pd H
 have:=key ops 0 F (fun j=>by simp) H
 rw[List.range_eq_range']
 exact Zw _ _ _ this
def T3 (v:Value) (A B:Prop):Prop:=match v with|.bool b=>if b=true then A else B|_=>False
def vc (P:Program) (n:Nat) (T:World):Code→(Env→Hp→Prop)→(Nat→Env→Hp→Prop)→(Env→Hp→Prop)→Env→Hp→Prop
 | .skip,N,_,_,F,h=>N F h
 | .ret,_,_,R,F,h=>R F h
 | .exit j,_,X,_,F,h=>X j F h
 | .seq a b,N,X,R,F,h=>vc P n T a (fun F h=>vc P n T b N X R F h) X R F h
 | .cond c a b,N,X,R,F,h=>T3 (ev F c) (vc P n T a N X R F h) (vc P n T b N X R F h)
 | .block j c,N,X,R,F,h=>vc P n T c N (fun i F h=>if i=j then N F h else X i F h) R F h
 | .region _ ops false,N,_,_,F,h=>XK P T ops.toList N ops.toList F h
 | c,N,X,R,F,h=>VS P n T c N X R F h
def codeOk (n:Nat):Code→Bool
 | .seq a b=>codeOk n a&&codeOk n b
 | .cond _ a b=>codeOk n a&&codeOk n b
 | .block _ c=>codeOk n c
 | .region _ ops false=>Jh n ops
 | _=>true
theorem JV {n:Nat}:∀(c:Code) (N:Env→Hp→Prop) (X:Nat→Env→Hp→Prop) (R:Env→Hp→Prop) (F:Env) (h:Hp),codeOk n c=true→vc P n T c N X R F h→VS P n T c N X R F h:=by
 intro c
 induction c with
 | skip=>intro N X R F h _ H;exact VS.skip H
 | ret=>intro N X R F h _ H;exact VS.ret H
 | exit j=>intro N X R F h _ H;exact VS.exit H
 | seq a b MY MZ=>
  intro N X R F h ZW H
  simp only[codeOk,Bool.and_eq_true]at ZW
  exact VS.seq (VS.mono (MY _ _ _ _ _ ZW.1 H) (fun F h q=>MZ _ _ _ _ _ ZW.2 q) (fun _ _ _ q=>q) (fun _ _ q=>q))
 | cond c a b MY MZ=>
  intro N X R F h ZW H
  simp only[codeOk,Bool.and_eq_true]at ZW
  simp only[vc,T3]at H
  split at H
  ·rename_i t ht
   refine VS.cond ht (fun hb=>?_) (fun hb=>?_)
   ·rw[if_pos hb]at H;exact MY _ _ _ _ _ ZW.1 H
   ·rw[if_neg (by simp[hb])]at H;exact MZ _ _ _ _ _ ZW.2 H
  ·exact H.elim
 | block j c ih=>intro N X R F h ZW H;exact VS.block (ih _ _ _ _ _ ZW H)
 | region id ops draw=>
  intro N X R F h ZW H
  cases draw with
  | true=>exact H
  | false=>exact VS.region ZW (by simpa using Yo _ _ _ H)
 | _=>intro N X R F h _ H;exact H
theorem Ze.Rp {f:FuncId} {fn:Func} {c:Code} {l:List ResultVar} {args:List Value} {Q:Value→Hp→Prop} (hf:P.funcs[f]? = some fn) (hb:fn.body=some c)
  (hl:fn.results=l.toArray) (hn:Nat.ble args.length fn.ntmps=true) (ZW:codeOk fn.ntmps c=true)
  (H:vc P fn.ntmps T c (fun F h'=>JQ P l F Q h') (fun _ _ _=>False) (fun F h'=>JQ P l F Q h') (Qp args 0) h) :
  Ze P T f args.toArray h Q:=
 Ze.Vw hf hb hl (by simpa using hn) (by simpa using JV _ _ _ _ _ _ ZW H)
end
section
variable {P:Program} {T:World} {K:Value→Hp→Prop} {F:Env} {h:Hp} {ty:TypeId}
def Rq (P:Program) (T:World) (ops:List Oper) (N:Env→Hp→Prop) (l:List Oper) (F:Env) (d:Option Tmp):Value→Hp→Prop:=fun v h=>XK P T ops N l (Zi F d v) h
theorem T4 {ops l:List Oper} {N:Env→Hp→Prop} {d:Option Tmp} {v:Value}:Rq P T ops N l F d v h=XK P T ops N l (Zi F d v) h:=rfl
theorem T5 {ops:List Oper} {N:Env→Hp→Prop}:XK P T ops N [] F h=N F h:=rfl
theorem Wr {ops l:List Oper} {N:Env→Hp→Prop} {d:Option Tmp} {op:Op} {pos:String} {Yf:Array Edge} :
  XK P T ops N (⟨d,op,ty,pos,Yf,none⟩ :: l) F h=Xc P T op ty (Rq P T ops N l F d) F h:=rfl
def Ws (P:Program) (T:World) (ops:List Oper) (N:Env→Hp→Prop) (l:List Oper) (F:Env) (d:Option Tmp) (op:Op) (ty:TypeId) (v:Value) (b:Bool) (h:Hp):Prop:=
 ZJ v b (Xc P T op ty (Rq P T ops N l F d) F h) (XK P T ops N l (Zi F d undef) h)
theorem Wt {ops l:List Oper} {N:Env→Hp→Prop} {d:Option Tmp} {op:Op} {pos:String} {Yf:Array Edge} {j:Nat} {b:Bool} :
  XK P T ops N (⟨d,op,ty,pos,Yf,some (j,b)⟩ :: l) F h=Ws P T ops N l F d op ty (Yu ops F j) b h:=rfl
theorem UC {ops l:List Oper} {N:Env→Hp→Prop} {d:Option Tmp} {op:Op} {b c:Bool} :
  Ws P T ops N l F d op ty (.bool c) b h=if c=b then Xc P T op ty (Rq P T ops N l F d) F h else XK P T ops N l (Zi F d undef) h:=rfl
def OT (P:Program) (n:Nat) (T:World) (b:Code) (N:Env→Hp→Prop) (X:Nat→Env→Hp→Prop) (R:Env→Hp→Prop):Env→Hp→Prop:=fun F h=>vc P n T b N X R F h
def OU (j:Nat) (N:Env→Hp→Prop) (X:Nat→Env→Hp→Prop):Nat→Env→Hp→Prop:=fun i F h=>if i=j then N F h else X i F h
def T6:Nat→Env→Hp→Prop:=fun _ _ _=>False
def Rr (P:Program) (l:List ResultVar) (Q:Value→Hp→Prop):Env→Hp→Prop:=fun F h=>JQ P l F Q h
def Pe (P:Program) (n:Nat) (T:World) (v:Value) (a b:Code) (N:Env→Hp→Prop) (X:Nat→Env→Hp→Prop) (R:Env→Hp→Prop) (F:Env) (h:Hp):Prop:=
 T3 v (vc P n T a N X R F h) (vc P n T b N X R F h)
section
variable {n:Nat} {N:Env→Hp→Prop} {X:Nat→Env→Hp→Prop} {R:Env→Hp→Prop}
theorem T7 {b:Code}:OT P n T b N X R F h=vc P n T b N X R F h:=rfl
theorem T8 {i j:Nat}:OU j N X i F h=if i=j then N F h else X i F h:=rfl
theorem V2 {i:Nat}:T6 i F h=False:=rfl
theorem T9 {l:List ResultVar} {Q:Value→Hp→Prop}:Rr P l Q F h=JQ P l F Q h:=rfl
theorem Rs:vc P n T .skip N X R F h=N F h:=rfl
theorem PC:vc P n T .ret N X R F h=R F h:=rfl
theorem Rt {j:Nat}:vc P n T (.exit j) N X R F h=X j F h:=rfl
theorem PD {a b:Code}:vc P n T (.seq a b) N X R F h=vc P n T a (OT P n T b N X R) X R F h:=rfl
theorem Ru {c:Operand} {a b:Code}:vc P n T (.cond c a b) N X R F h=Pe P n T (ev F c) a b N X R F h:=rfl
theorem Sa {j:Nat} {c:Code}:vc P n T (.block j c) N X R F h=vc P n T c N (OU j N X) R F h:=rfl
theorem V3 {id:Nat} {l:List Oper}:vc P n T (.region id l.toArray false) N X R F h=XK P T l N l F h:=rfl
theorem Rv {id:Nat} {l:Array Oper}:vc P n T (.region id l true) N X R F h=VS P n T (.region id l true) N X R F h:=rfl
theorem Rw {c:Code}:vc P n T (.loop c) N X R F h=VS P n T (.loop c) N X R F h:=rfl
theorem Wu {a b:Code} {t:Bool}:Pe P n T (.bool t) a b N X R F h=if t=true then vc P n T a N X R F h else vc P n T b N X R F h:=rfl
end
theorem Ze.Zn {f:FuncId} {fn:Func} {c:Code} {l:List ResultVar} {args:List Value} {Q:Value→Hp→Prop} (hf:P.funcs[f]? = some fn) (hb:fn.body=some c)
  (hl:fn.results=l.toArray) (hn:Nat.ble args.length fn.ntmps=true) (ZW:codeOk fn.ntmps c=true)
  (H:vc P fn.ntmps T c (Rr P l Q) T6 (Rr P l Q) (Qp args 0) h):Ze P T f args.toArray h Q:=Ze.Rp hf hb hl hn ZW H
def Sb (I:Env→Hp→Prop) (μ:Env→Hp→Nat) (m:Nat):Env→Hp→Prop:=fun F h=>I F h∧μ F h<m
theorem VS.XL {n:Nat} {N:Env→Hp→Prop} {X:Nat→Env→Hp→Prop} {R:Env→Hp→Prop} {c:Code} (I:Env→Hp→Prop) (μ:Env→Hp→Nat) (ZW:codeOk n c=true) (h0:I F h)
  (round:∀F h,I F h→vc P n T c (Sb I μ (μ F h)) X R F h):VS P n T (.loop c) N X R F h:=
 VS.loop I μ h0 fun F h hI=>JV _ _ _ _ _ _ ZW (round F h hI)
theorem Ze.use {f:FuncId} {args:Array Value} {Q:Value→Hp→Prop} (c:Ze P T f args h Q) (H:∀v h',Q v h'→K v h'):Ze P T f args h K:=c.mono H
theorem Ze.pure {f:FuncId} {args:Array Value} {r:Value} (c:Ze P T f args h fun v h'=>v=r∧h'=h) (H:K r h):Ze P T f args h K:=
 c.mono fun _ _ ⟨e1,e2⟩=>by subst e1;subst e2;exact H
def ap (B:Value→Prop) (v:Value):Prop:=B v
def XM (v:Value) (h:Hp):Value→Hp→Prop:=fun v' h'=>v'=v∧h'=h
def X5 (P:Program) (T:World) (ops:List Oper) (N:Env→Hp→Prop):List Oper→Env→Hp→Prop
 | [],F,h=>N F h
 | ⟨d,op,ty,_,_,none⟩ :: l,F,h=>∃v,Xc P T op ty (XM v h) F h∧X5 P T ops N l (Zi F d v) h
 | ⟨d,op,ty,_,_,some (j,b)⟩ :: l,F,h=>ZJ (Yu ops F j) b (∃v,Xc P T op ty (XM v h) F h∧X5 P T ops N l (Zi F d v) h) (X5 P T ops N l (Zi F d undef) h)
theorem ZV {ops:List Oper} {N:Env→Hp→Prop}:∀(l:List Oper) (F:Env),X5 P T ops N l F h→YJ P T ops (fun h'=>h'=h) N (l.map fun o=>(0,true,o)) F h
 | [],_,H=>H
 | ⟨d,op,ty,pos,Yf,none⟩ :: l,F,H=>by
  obtain⟨v,hv,H⟩:=H
  exact⟨v,fun h' e=>by subst e;exact hv,ZV l _ H⟩
 | ⟨d,op,ty,pos,Yf,some (j,b)⟩ :: l,F,H=>by
  simp only[X5,ZJ]at H
  simp only[List.map_cons,YJ,ZJ]
  split at H
  ·split at H
   ·rename_i VC
    rw[if_pos VC]
    obtain⟨v,hv,H⟩:=H
    exact⟨v,fun h' e=>by subst e;exact hv,ZV l _ H⟩
   ·rename_i VC
    rw[if_neg VC]
    exact ZV l _ H
  ·exact ZV l _ H
theorem VS.q {n:Nat} {N:Env→Hp→Prop} {X:Nat→Env→Hp→Prop} {R:Env→Hp→Prop} {id:Nat} {ops:List Oper} (hm:P.follows .mixedOrders=true) (ZW:YI n ops.toArray ((List.range ops.toArray.size).map fun i=>(i,true))=true)
  (H:X5 P T ops N ops F h):VS P n T (.region id ops.toArray true) N X R F h:=VS.PB hm ZW (ZV _ _ H)
def qK (P:Program) (T:World) (ops:List Oper) (N:Env→Hp→Prop) (l:List Oper) (F:Env) (d:Option Tmp) (h:Hp):Value→Prop:=fun v=>X5 P T ops N l (Zi F d v) h
def QY (P:Program) (T:World) (op:Op) (ty:TypeId) (B:Value→Prop) (F:Env) (h:Hp):Prop:=∃v,Xc P T op ty (XM v h) F h∧ap B v
def Sc (P:Program) (T:World) (ops:List Oper) (N:Env→Hp→Prop) (l:List Oper) (F:Env) (d:Option Tmp) (op:Op) (ty:TypeId) (v:Value) (b:Bool) (h:Hp):Prop:=
 ZJ v b (QY P T op ty (qK P T ops N l F d h) F h) (X5 P T ops N l (Zi F d undef) h)
theorem Sd {ops:List Oper} {N:Env→Hp→Prop}:X5 P T ops N [] F h=N F h:=rfl
theorem Wv {ops l:List Oper} {N:Env→Hp→Prop} {d:Option Tmp} {op:Op} {pos:String} {Yf:Array Edge} :
  X5 P T ops N (⟨d,op,ty,pos,Yf,none⟩ :: l) F h=QY P T op ty (qK P T ops N l F d h) F h:=rfl
theorem Ww {ops l:List Oper} {N:Env→Hp→Prop} {d:Option Tmp} {op:Op} {pos:String} {Yf:Array Edge} {j:Nat} {b:Bool} :
  X5 P T ops N (⟨d,op,ty,pos,Yf,some (j,b)⟩ :: l) F h=Sc P T ops N l F d op ty (Yu ops F j) b h:=rfl
theorem UD {ops l:List Oper} {N:Env→Hp→Prop} {d:Option Tmp} {op:Op} {b c:Bool} :
  Sc P T ops N l F d op ty (.bool c) b h=if c=b then QY P T op ty (qK P T ops N l F d h) F h else X5 P T ops N l (Zi F d undef) h:=rfl
theorem PE {ops l:List Oper} {N:Env→Hp→Prop} {d:Option Tmp} {v:Value}:qK P T ops N l F d h v=X5 P T ops N l (Zi F d v) h:=rfl
def qR (x:Option Value) (B:Value→Prop):Prop:=match x with|some v=>ap B v|none=>False
theorem Rx {v:Value} {B:Value→Prop}:qR (some v) B=B v:=rfl
theorem TO {v:Value} {B:Value→Prop}:(∃u,XM u h v h∧ap B u)=B v:=by
 apply propext;constructor
 ·rintro⟨u,⟨e,_⟩,H⟩;subst e;exact H
 ·intro H;exact⟨v,⟨rfl,rfl⟩,H⟩
section
variable {B:Value→Prop}
theorem Se {x:Operand}:QY P T (.move x) ty B F h=B (ev F x):=TO
theorem Wx {x:Operand}:QY P T (.assign x) ty B F h=B (ev F x):=TO
def Sf (c a b:Value) (B:Value→Prop):Prop:=match c with|.bool t=>B (if t then a else b)|_=>False
theorem Wy {t:Bool} {a b:Value}:Sf (.bool t) a b B=B (if t=true then a else b):=rfl
theorem Sg {c a b:Operand}:QY P T (.pick c a b) ty B F h=Sf (ev F c) (ev F a) (ev F b) B:=by
 show (∃u,QG _ _ _ (XM u h) h∧ap B u)=_
 unfold QG Sf
 cases ev F c<;>first|exact TO|simp
def VD (s:Option Bool) (n:Option Nat) (p:Value) (B:Value→Prop) (h:Hp):Prop:=
 match p with
 | .pointer (some a)=>match s,n with
  | some false,_=>qR (hc h a) B
  | some true,some n=>qR ((rd h a n).map fun l=>.agg l.toArray) B
  | _,_=>False
 | _=>False
theorem V4 {n:Option Nat} {a:Addr}:VD (some false) n (.pointer (some a)) B h=qR (hc h a) B:=rfl
theorem Wz {n:Nat} {a:Addr}:VD (some true) (some n) (.pointer (some a)) B h=qR ((rd h a n).map fun l=>.agg l.toArray) B:=rfl
theorem Sh {t:TypeId} {x:Operand}:QY P T (.load t x) ty B F h=VD (ta P t) (tn P t) (ev F x) B h:=by
 show (∃u,XF _ _ _ (XM u h) h∧ap B u)=_
 unfold XF VD
 cases ev F x with
 | pointer a=>
  cases a with
  | none=>simp
  | some a=>
   simp only
   rcases ta P t with _|b
   ·simp
   ·cases b
    ·simp only[Jx,qR]
     cases hc h a with
     | none=>simp
     | some v=>exact TO
    ·rcases tn P t with _|n
     ·simp
     ·simp only[JR,qR]
      cases rd h a n with
      | none=>simp
      | some v=>exact TO
 | _=>simp
def WA (f:Option Nat) (p:Value) (B:Value→Prop):Prop:=match f,p with|some o,.pointer (some a)=>B (.pointer (some (a.add o)))|_,_=>False
theorem UE {o b f:Nat}:WA (some o) (.pointer (some ⟨b,f,none⟩)) B=B (.pointer (some ⟨b,f+o,none⟩)):=by
 show B (.pointer (some (Addr.add _ _)))=_;rw[ZD]
theorem V5 {t:TypeId} {x:Operand} {i:Nat}:QY P T (.fieldAddr t x i) ty B F h=WA (tf P t i) (ev F x) B:=by
 show (∃u,Xq _ _ (XM u h) h∧ap B u)=_
 unfold Xq WA
 rcases tf P t i with _|o
 ·simp
 ·cases ev F x with
  | pointer a=>cases a with
   | none=>simp
   | some a=>exact TO
  | _=>simp
def Ml (arr:Option (Nat × TypeId)) (sl:Option TypeId) (n:TypeId→Option Nat) (p i:Value) (B:Value→Prop):Prop:=
 match i with
 | .int _ i=>(match arr,sl,p with
  | some (len,e),none,.pointer (some a)=>(match n e with
   | some n=>if 0≤i∧i<(len:Int) then B (.pointer (some (a.add (i.toNat*n)))) else False
   | none=>False)
  | none,some e,.slice (some a) len _=>(match n e with
   | some n=>if 0≤i∧i<(len:Int) then B (.pointer (some (a.add (i.toNat*n)))) else False
   | none=>False)
  | _,_,_=>False)
 | _=>False
def Ry (m:Option Nat) (len:Nat) (a:Addr) (i:Int) (B:Value→Prop):Prop:=
 match m with|some m=>if 0≤i∧i<(len:Int) then B (.pointer (some (a.add (i.toNat*m)))) else False|none=>False
theorem Rz {len:Nat} {e:TypeId} {n:TypeId→Option Nat} {a:Addr} {k:IntKind} {i:Int}:Ml (some (len,e)) none n (.pointer (some a)) (.int k i) B=Ry (n e) len a i B:=rfl
theorem V6 {len cap:Nat} {e:TypeId} {n:TypeId→Option Nat} {a:Addr} {k:IntKind} {i:Int}:Ml none (some e) n (.slice (some a) len cap) (.int k i) B=Ry (n e) len a i B:=rfl
theorem V7 {m len b f:Nat} {i:Int}:Ry (some m) len ⟨b,f,none⟩ i B=if 0≤i∧i<(len:Int) then B (.pointer (some ⟨b,f+i.toNat*m,none⟩)) else False:=by
 simp only[Ry,ZD]
theorem Xt {c:Prop} [Decidable c] {A:Value→Prop}:(∃u,(if c then A u else False)∧ap B u)=if c then (∃u,A u∧ap B u) else False:=by
 split<;>simp
theorem PF {t:TypeId} {x i:Operand}:QY P T (.indexAddr t x i) ty B F h=Ml (Yh P t) (YY P t) (tn P) (ev F x) (ev F i) B:=by
 show (∃u,Pb _ _ _ _ _ (XM u h) h∧ap B u)=_
 unfold Pb Ml
 cases ev F i with
 | int k i=>
  simp only
  rcases Yh P t with _|⟨len,e⟩
  ·rcases YY P t with _|e
   ·simp
   ·cases ev F x with
    | slice a len cap=>
     cases a with
     | none=>simp
     | some a=>
      simp only
      rcases tn P e with _|n
      ·simp
      ·simp only;rw[Xt,TO]
    | _=>simp
  ·rcases YY P t with _|e'
   ·cases ev F x with
    | pointer a=>
     cases a with
     | none=>simp
     | some a=>
      simp only
      rcases tn P e with _|n
      ·simp
      ·simp only;rw[Xt,TO]
    | _=>simp
   ·simp
 | _=>simp
def XN (v:Value) (i:Nat) (B:Value→Prop):Prop:=match v with|.tuple vs=>qR (vs[i]?) B|_=>False
theorem JW {l:List Value} {i:Nat}:XN (.tuple l.toArray) i B=qR (nth l i) B:=by simp[XN,Yt]
theorem UF {x:Operand} {i:Nat}:QY P T (.extract x i) ty B F h=XN (ev F x) i B:=by
 show (∃u,Ys _ _ (XM u h) h∧ap B u)=_
 unfold Ys XN
 cases ev F x with
 | tuple vs=>
  simp only[Jx,qR]
  cases vs[i]? with
  | none=>simp
  | some v=>exact TO
 | _=>simp
def PG (v:Value) (B:Value→Prop):Prop:=match v with|.pointer (some a)=>B (.pointer (some a))|.func (.func f) x y=>B (.func (.func f) x y)|_=>False
theorem QZ {a:Addr}:PG (.pointer (some a)) B=B (.pointer (some a)):=rfl
theorem RA {x:Operand}:QY P T (.nilCheck x) ty B F h=PG (ev F x) B:=by
 show (∃u,Wj _ (XM u h) h∧ap B u)=_
 unfold Wj PG
 cases ev F x with
 | pointer a=>cases a with
  | none=>simp
  | some a=>exact TO
 | func f a b=>cases f with
  | func f=>exact TO
  | _=>simp
 | _=>simp
theorem RB {op:BinOp} {t t':TypeId} {x y:Operand}:QY P T (.binOp op t x y t') ty B F h = ∃u,Zt P op t x y (ev F x) (ev F y) (XM u h) h∧ap B u:=rfl
theorem PH {op:UnOp} {t:TypeId} {x:Operand}:QY P T (.unOp op t x) ty B F h = ∃u,Ox P op (ev F x) (XM u h) h∧ap B u:=rfl
theorem Si {s d:TypeId} {x:Operand}:QY P T (.convert s d x) ty B F h = ∃u,YZ P s d (ev F x) (XM u h) h∧ap B u:=rfl
theorem PI {b:Builtin} {args:Array Operand} {ts:Array TypeId}:QY P T (.call ⟨.builtin b,args,ts⟩) ty B F h =
  ∃u,Ql P T b ts ty (args.map fun|.const _=>true|_=>false) (TN F args.toList) (XM u h) h∧ap B u:=rfl
end
theorem PJ {t:Nat}:ev F (.tmp t)=F t:=rfl
theorem Sj {v:Value}:ev F (.const v)=v:=rfl
theorem V8 {g:Nat}:ev F (.global g)=.pointer (some ⟨g,0,none⟩):=rfl
theorem RC {g:Nat}:ev F (.func g)=.func (.func g) #[] #[]:=rfl
theorem ZG {d:Nat} {v:Value} {t:Nat}:Zi F (some d) v t=if t=d then v else F t:=rfl
theorem V9 {v:Value}:Zi F none v=F:=rfl
theorem RD {d:Nat} {v:Value} {t:Nat}:Ot F d v t=if t=d then v else F t:=rfl
theorem WB {t:Bool} {a b:Value}:QG (.bool t) a b K h=K (if t=true then a else b) h:=rfl
theorem Ta {l:List Value} {t:TypeId}:TX (some l) t K h=K (.pointer (some ⟨h.size,0,none⟩)) (h.push (.cells l.toArray t)):=rfl
theorem Tb {v:Value}:Jx (some v) K h=K v h:=rfl
theorem Tc {l:List Value}:JR (some l) K h=K (.agg l.toArray) h:=rfl
theorem QJ {n:Option Nat} {a:Addr}:XF (some false) n (.pointer (some a)) K h=Jx (hc h a) K h:=rfl
theorem JX {n:Nat} {a:Addr}:XF (some true) (some n) (.pointer (some a)) K h=JR (rd h a n) K h:=rfl
theorem Sk {h':Hp}:Vx (some h') K=K undef h':=rfl
theorem WC {n:Nat} {a:Addr} {k:IntKind} {i:Int}:Yi (some n) (.pointer (some a)) (.int k i) K h=if n=1 then Vx (We h a (.int k i)) K else False:=rfl
theorem UG {n:Nat} {a:Addr} {b:Bool}:Yi (some n) (.pointer (some a)) (.bool b) K h=if n=1 then Vx (We h a (.bool b)) K else False:=rfl
theorem Q0 {n:Nat} {a:Addr} {p:Option Addr} {l c:Nat}:Yi (some n) (.pointer (some a)) (.slice p l c) K h=if n=1 then Vx (We h a (.slice p l c)) K else False:=rfl
theorem Qt {n:Nat} {a:Addr} {s:ByteArray}:Yi (some n) (.pointer (some a)) (.string s) K h=if n=1 then Vx (We h a (.string s)) K else False:=rfl
theorem JY {n:Nat} {a:Addr} {p:Option Addr}:Yi (some n) (.pointer (some a)) (.pointer p) K h=if n=1 then Vx (We h a (.pointer p)) K else False:=rfl
theorem WD {n:Nat} {a:Addr} {p:Option Nat}:Yi (some n) (.pointer (some a)) (.map p) K h=if n=1 then Vx (We h a (.map p)) K else False:=rfl
theorem UH {n:Nat} {a:Addr} {f:Fn} {x y:Array Value}:Yi (some n) (.pointer (some a)) (.func f x y) K h=if n=1 then Vx (We h a (.func f x y)) K else False:=rfl
theorem JZ {n:Nat} {a:Addr}:Yi (some n) (.pointer (some a)) .nilFunc K h=if n=1 then Vx (We h a .nilFunc) K else False:=rfl
theorem WE {n:Nat} {a:Addr} {l:List Value}:Yi (some n) (.pointer (some a)) (.agg l.toArray) K h=if n=l.length then Vx (wr h a l) K else False:=rfl
theorem UI {o b f:Nat}:Xq (some o) (.pointer (some ⟨b,f,none⟩)) K h=K (.pointer (some ⟨b,f+o,none⟩)) h:=by
 show K (.pointer (some (Addr.add _ _))) h=_;rw[ZD]
def RE (m:Option Nat) (len:Nat) (a:Addr) (i:Int) (K:Value→Hp→Prop) (h:Hp):Prop:=
 match m with|some m=>if 0≤i∧i<(len:Int) then K (.pointer (some (a.add (i.toNat*m)))) h else False|none=>False
theorem RF {len:Nat} {e:TypeId} {n:TypeId→Option Nat} {a:Addr} {k:IntKind} {i:Int} :
  Pb (some (len,e)) none n (.pointer (some a)) (.int k i) K h=RE (n e) len a i K h:=rfl
theorem Td {len cap:Nat} {e:TypeId} {n:TypeId→Option Nat} {a:Addr} {k:IntKind} {i:Int} :
  Pb none (some e) n (.slice (some a) len cap) (.int k i) K h=RE (n e) len a i K h:=rfl
theorem Te {m len b f:Nat} {i:Int}:RE (some m) len ⟨b,f,none⟩ i K h=if 0≤i∧i<(len:Int) then K (.pointer (some ⟨b,f+i.toNat*m,none⟩)) h else False:=by
 simp only[RE,ZD]
theorem J0 {l:List Value} {i:Nat}:Ys (.tuple l.toArray) i K h=Jx (nth l i) K h:=by simp[Ys,Yt]
theorem Q1 {a:Addr}:Wj (.pointer (some a)) K h=K (.pointer (some a)) h:=rfl
theorem Tf {f:FuncId} {x y:Array Value}:Wj (.func (.func f) x y) K h=K (.func (.func f) x y) h:=rfl
theorem WG {f:FuncId} {l:List Value} (hg:goes P f=true):Jm P T (.func (.func f) #[] #[]) l K h=Ze P T f l.toArray h K:=by
 simp only[Jm,hg,↓reduceIte]
 simp
theorem Sm {t:TypeId} {x y:Operand} {k:IntKind} {a b:Int}:Zt P .add t x y (.int k a) (.int k b) K h=K (.int k (k.wrap (a+b))) h:=by
 simp[Zt,binOp,Op.intArith,Zd,eqGuard]
theorem Sn {t:TypeId} {x y:Operand} {k:IntKind} {a b:Int}:Zt P .sub t x y (.int k a) (.int k b) K h=K (.int k (k.wrap (a-b))) h:=by
 simp[Zt,binOp,Op.intArith,Zd,eqGuard]
theorem So {t:TypeId} {x y:Operand} {k:IntKind} {a b:Int}:Zt P .mul t x y (.int k a) (.int k b) K h=K (.int k (k.wrap (a*b))) h:=by
 simp[Zt,binOp,Op.intArith,Zd,eqGuard]
theorem Sp {t:TypeId} {x y:Operand} {k:IntKind} {a b:Int}:Zt P .quo t x y (.int k a) (.int k b) K h=if b=0 then False else K (.int k (k.wrap (a.tdiv b))) h:=by
 simp only[Zt,binOp,Op.intDiv,Za,eqGuard]
 by_cases hb:b=0
 ·subst hb;simp[runtimePanic,goPanic,Za,hw,Zd,program]
 ·simp[hb,Zd]
theorem Sq {t:TypeId} {x y:Operand} {k:IntKind} {a b:Int}:Zt P .rem t x y (.int k a) (.int k b) K h=if b=0 then False else K (.int k (a.tmod b)) h:=by
 simp only[Zt,binOp,Op.intDiv,Za,eqGuard]
 by_cases hb:b=0
 ·subst hb;simp[runtimePanic,goPanic,Za,hw,Zd,program]
 ·simp[hb,Zd]
def Xe (op:BinOp) (k:IntKind) (a b:Int):Int:=
 let x:=BitVec.ofInt k.bits a
 let y:=BitVec.ofInt k.bits b
 k.wrap (match op with|.and=>x &&& y|.or=>x ||| y|.xor=>x ^^^ y|_=>x &&& ~~~y).toNat
theorem Sr {t:TypeId} {x y:Operand} {k:IntKind} {a b:Int}:Zt P .and t x y (.int k a) (.int k b) K h=K (.int k (Xe .and k a b)) h:=by
 simp[Zt,binOp,Op.intBits,Zd,eqGuard,Xe]
theorem RG {t:TypeId} {x y:Operand} {k:IntKind} {a b:Int}:Zt P .or t x y (.int k a) (.int k b) K h=K (.int k (Xe .or k a b)) h:=by
 simp[Zt,binOp,Op.intBits,Zd,eqGuard,Xe]
theorem Ss {t:TypeId} {x y:Operand} {k:IntKind} {a b:Int}:Zt P .xor t x y (.int k a) (.int k b) K h=K (.int k (Xe .xor k a b)) h:=by
 simp[Zt,binOp,Op.intBits,Zd,eqGuard,Xe]
theorem UJ {t:TypeId} {x y:Operand} {k:IntKind} {a b:Int}:Zt P .andNot t x y (.int k a) (.int k b) K h=K (.int k (Xe .andNot k a b)) h:=by
 simp[Zt,binOp,Op.intBits,Zd,eqGuard,Xe]
def Pf (k:IntKind) (a b:Int):Int:=k.wrap (a*2 ^ min b.toNat k.bits)
def St (k:IntKind) (a b:Int):Int:=a.fdiv (2 ^ min b.toNat k.bits)
theorem Su {t:TypeId} {x y:Operand} {k k':IntKind} {a b:Int}:Zt P .shl t x y (.int k a) (.int k' b) K h=if b<0 then False else K (.int k (Pf k a b)) h:=by
 simp only[Zt,binOp,Op.shift,Za,eqGuard]
 by_cases hb:b<0
 ·simp[hb,runtimePanic,goPanic,Za,hw,Zd,program]
 ·simp[hb,Zd,Pf]
theorem Sv {t:TypeId} {x y:Operand} {k k':IntKind} {a b:Int}:Zt P .shr t x y (.int k a) (.int k' b) K h=if b<0 then False else K (.int k (St k a b)) h:=by
 simp only[Zt,binOp,Op.shift,Za,eqGuard]
 by_cases hb:b<0
 ·simp[hb,runtimePanic,goPanic,Za,hw,Zd,program]
 ·simp[hb,Zd,St]
theorem Sw {t:TypeId} {x y:Operand} {k:IntKind} {a b:Int}:Zt P .eql t x y (.int k a) (.int k b) K h=K (.bool (decide (a=b))) h:=by
 simp[Zt,binOp,Op.intCmp,Zd,eqGuard];rfl
theorem Sx {t:TypeId} {x y:Operand} {k:IntKind} {a b:Int}:Zt P .neq t x y (.int k a) (.int k b) K h=K (.bool (decide (a≠b))) h:=by
 simp[Zt,binOp,Op.intCmp,Zd,eqGuard]
 have:(a != b) = !decide (a=b):=by rfl
 rw[this]
theorem Sy {t:TypeId} {x y:Operand} {k:IntKind} {a b:Int}:Zt P .lss t x y (.int k a) (.int k b) K h=K (.bool (decide (a<b))) h:=by
 simp[Zt,binOp,Op.intCmp,Zd,eqGuard]
theorem Sz {t:TypeId} {x y:Operand} {k:IntKind} {a b:Int}:Zt P .leq t x y (.int k a) (.int k b) K h=K (.bool (decide (a≤b))) h:=by
 simp[Zt,binOp,Op.intCmp,Zd,eqGuard]
theorem SA {t:TypeId} {x y:Operand} {k:IntKind} {a b:Int}:Zt P .gtr t x y (.int k a) (.int k b) K h=K (.bool (decide (b<a))) h:=by
 simp[Zt,binOp,Op.intCmp,Zd,eqGuard]
theorem SB {t:TypeId} {x y:Operand} {k:IntKind} {a b:Int}:Zt P .geq t x y (.int k a) (.int k b) K h=K (.bool (decide (b≤a))) h:=by
 simp[Zt,binOp,Op.intCmp,Zd,eqGuard]
theorem RH {b:Bool}:Ox P .not (.bool b) K h=K (.bool (!b)) h:=rfl
theorem RI {k:IntKind} {a:Int}:Ox P .neg (.int k a) K h=K (.int k (k.wrap (0-a))) h:=rfl
theorem RJ {k:IntKind} {a:Int}:Ox P .xor (.int k a) K h=K (.int k (Xe .xor k (if k.signed then -1 else k.max) a)) h:=rfl
def SC (d:Option IntKind) (a:Int) (K:Value→Hp→Prop) (h:Hp):Prop:=match d with|some k=>K (.int k (k.wrap a)) h|none=>False
theorem UK {k:IntKind} {a:Int}:SC (some k) a K h=K (.int k (k.wrap a)) h:=rfl
theorem Th {s d:TypeId} {j:IntKind} {a:Int} (hs:(Wi P s).isSome=true) (hd:(Wi P d).isSome=true):YZ P s d (.int j a) K h=SC (Wi P d) a K h:=by
 unfold Wi at hd hs
 split at hd
 ·rename_i k1 h1
  split at hs
  ·rename_i k2 h2
   simp only[YZ,convert,Za,Zc h1,Zc h2]
   unfold Wi
   rw[h1]
   rfl
  ·cases hs
 ·cases hd
theorem Ti {t:TypeId} {x y:Operand} {a b:ByteArray}:Zt P .eql t x y (.string a) (.string b) K h=K (.bool (a.toList == b.toList)) h:=by
 simp[Zt,binOp,Op.stringOp,Zd,eqGuard]
theorem Tj {t:TypeId} {x y:Operand} {a b:ByteArray}:Zt P .neq t x y (.string a) (.string b) K h=K (.bool (!(a.toList == b.toList))) h:=by
 simp[Zt,binOp,Op.stringOp,Zd,eqGuard]
theorem Q2 {cs:Array Bool} {t:TypeId} {p:Option Addr} {l c:Nat} (ht:(YY P t).isSome=true) :
  Ql P T .len #[t] ty cs [.slice p l c] K h=K (.int .i64 l) h:=by
 unfold YY at ht
 split at ht
 ·rename_i e' hu
  simp[Ql,builtin,Builtin.len_,Za,Zd,Zc hu,ZQ,goInt]
 ·cases ht
theorem Tk {t:TypeId} (h:Jw P t=true):P.underlying t=some .string:=by
 unfold Jw at h;split at h
 ·assumption
 ·cases h
theorem Qu {cs:Array Bool} {t:TypeId} {s:ByteArray} (ht:Jw P t=true) :
  Ql P T .len #[t] ty cs [.string s] K h=K (.int .i64 s.size) h:=by
 simp[Ql,builtin,Builtin.len_,Za,Zd,Zc (Tk ht),ZQ,goInt]
theorem RK {ts:Array TypeId} {cs:Array Bool} {k k':IntKind} {a b:Int}:Ql P T .min ts ty cs [.int k a,.int k' b] K h=K (.int k (if b<a then b else a)) h:=by
 simp[Ql,builtin,Builtin.min_,Builtin.min2,Zd,ZQ]
theorem RL {ts:Array TypeId} {cs:Array Bool} {k k':IntKind} {a b:Int}:Ql P T .max ts ty cs [.int k a,.int k' b] K h=K (.int k (if b>a then b else a)) h:=by
 simp[Ql,builtin,Builtin.max_,Builtin.max2,Zd,ZQ]
end
section
variable {P:Program} {T:World} {K:Value→Hp→Prop} {F:Env} {h:Hp} {ty:TypeId} {B:Value→Prop}
def SD (p:Option (Nat × Nat)) (place:Nat→Option (Nat × Nat)) (cs:List Value) (v:Value) (l:List (Nat × Value)):Option (List Value):=
 match p with
 | some (o,s)=>if (cl v).length=s∧o+s≤cs.length then Z9 place (ZI cs o (cl v)) l else none
 | none=>none
theorem Tl {place:Nat→Option (Nat × Nat)} {cs:List Value}:Z9 place cs []=some cs:=rfl
theorem WH {place:Nat→Option (Nat × Nat)} {cs:List Value} {i:Nat} {v:Value} {l:List (Nat × Value)}:Z9 place cs ((i,v) :: l)=SD (place i) place cs v l:=rfl
theorem UL {o s:Nat} {place:Nat→Option (Nat × Nat)} {cs:List Value} {v:Value} {l:List (Nat × Value)} :
  SD (some (o,s)) place cs v l=if (cl v).length=s∧o+s≤cs.length then Z9 place (ZI cs o (cl v)) l else none:=rfl
theorem Tm {n i:Nat}:XG n i=some (i*n,n):=rfl
theorem Qv {z:List Value} {pl:List (Nat × Nat)} {n:TypeId→Option Nat} {parts:List (Nat × Value)}:Xr (some z) (some pl) none n parts K h=JR (Z9 (nth pl) z parts) K h:=rfl
theorem WI {z:List Value} {m e:Nat} {n:TypeId→Option Nat} {parts:List (Nat × Value)}:Xr (some z) none (some (m,e)) n parts K h=JG (n e) z parts K h:=rfl
theorem Q3 {z:List Value} {n:Nat} {parts:List (Nat × Value)}:JG (some n) z parts K h=JR (Z9 (XG n) z parts) K h:=rfl
theorem WJ {e:TypeId} {len:Nat} {l:List Value}:Vy e len (some l) K h=K (.slice (some ⟨h.size,0,none⟩) len len) (h.push (.cells l.toArray e)):=rfl
theorem J1 {e:TypeId} {n len:Nat} {z:List Value} {parts:List (Nat × Value)}:Y6 e (some n) (some z) len parts K h=if z.length=n∧len*n≤16777216 then Vy e len (JH n len z parts) K h else False:=rfl
theorem Qw {e:TypeId} {n:TypeId→Option Nat} {z:TypeId→Option (List Value)} {len:Nat} {parts:List (Nat × Value)}:XH (some e) n z len parts K h=Y6 e (n e) (z e) len parts K h:=rfl
theorem WK {n o:Nat} {cs:List Value}:Jn (some true) (some n) cs o K h=K (.agg ((cs.drop o).take n).toArray) h:=rfl
theorem UM {n:Option Nat} {o:Nat} {cs:List Value}:Jn (some false) n cs o K h=Jx (nth cs o) K h:=rfl
theorem Tn {o t:Nat} {a:TypeId→Option Bool} {n:TypeId→Option Nat} {cs:List Value}:TY (some (o,t)) a n (.agg cs.toArray) K h=Jn (a t) (n t) cs o K h:=rfl
theorem SE {len e:Nat} {a:TypeId→Option Bool} {n:TypeId→Option Nat} {cs:List Value} {k:IntKind} {i:Int}:VV (some (len,e)) false a n (.agg cs.toArray) (.int k i) K h=Vz (n e) (a e) len cs i K h:=rfl
theorem WL {m len:Nat} {a:Option Bool} {cs:List Value} {i:Int}:Vz (some m) a len cs i K h=if 0≤i∧i<(len:Int) then Jn a (some m) cs (i.toNat*m) K h else False:=rfl
theorem SF {a:TypeId→Option Bool} {n:TypeId→Option Nat} {s:ByteArray} {k:IntKind} {i:Int}:VV none true a n (.string s) (.int k i) K h=if 0≤i∧i<(s.size:Int) then K (.int .u8 ((s.data.toList.getD i.toNat 0).toNat:Nat)) h else False:=rfl
theorem RM {d y:Nat}:sb none d y=some d:=rfl
theorem PK {k:IntKind} {i:Int} {d y:Nat}:sb (some (.int k i)) d y=if 0≤i∧i≤(y:Int) then some i.toNat else none:=rfl
def J2 (a:Option Addr) (n cap b:Nat) (l:Option Nat) (K:Value→Hp→Prop) (h:Hp):Prop:=
 match l with|some l=>K (.slice (if cap=l then a else a.map (·.add (l*n))) (b-l) (cap-l)) h|none=>False
def SG (n:Nat) (a:Option Addr) (cap:Nat) (lo:Option Value) (b:Option Nat) (K:Value→Hp→Prop) (h:Hp):Prop:=
 match b with|some b=>J2 a n cap b (sb lo 0 b) K h|none=>False
theorem WM {n:Nat} {a:Option Addr} {len cap:Nat} {lo hi:Option Value}:YT (some n) a len cap lo hi K h=SG n a cap lo (sb hi len cap) K h:=by
 unfold YT SG J2
 cases sb hi len cap<;>rfl
theorem WN {n b:Nat} {a:Option Addr} {cap:Nat} {lo:Option Value}:SG n a cap lo (some b) K h=J2 a n cap b (sb lo 0 b) K h:=rfl
theorem WO {n b l k o:Nat} {cap:Nat}:J2 (some ⟨k,o,none⟩) n cap b (some l) K h=K (.slice (if cap=l then some ⟨k,o,none⟩ else some ⟨k,o+l*n,none⟩) (b-l) (cap-l)) h:=by
 simp only[J2,Option.map_some,ZD]
theorem WQ {n b l:Nat} {cap:Nat}:J2 none n cap b (some l) K h=K (.slice none (b-l) (cap-l)) h:=by
 simp[J2]
theorem WR {e:Nat} {str:Bool} {n:TypeId→Option Nat} {a:Option Addr} {len cap:Nat} {lo hi:Option Value}:QV none (some e) str n (.slice a len cap) lo hi none K h=YT (n e) a len cap lo hi K h:=rfl
def SH (n:Option Nat) (a:Option Addr) (len:Nat) (lo:Option Value) (hv:Value) (m:Option Nat) (K:Value→Hp→Prop) (h:Hp):Prop:=match m with|some m=>YT n a len m lo (some hv) K h|none=>False
theorem WS {n:Option Nat} {a:Option Addr} {len m:Nat} {lo:Option Value} {hv:Value}:SH n a len lo hv (some m) K h=YT n a len m lo (some hv) K h:=rfl
theorem SI {e:Nat} {str:Bool} {n:TypeId→Option Nat} {a:Option Addr} {len cap:Nat} {lo:Option Value} {hv mv:Value}:QV none (some e) str n (.slice a len cap) lo (some hv) (some mv) K h=SH (n e) a len lo hv (sb (some mv) 0 cap) K h:=by
 simp only[QV,SH]
 cases sb (some mv) 0 cap<;>rfl
theorem SJ {e len:Nat} {str:Bool} {n:TypeId→Option Nat} {a:Addr} {lo hi:Option Value}:QV (some (len,e)) none str n (.pointer (some a)) lo hi none K h=YT (n e) (some a) len len lo hi K h:=rfl
def Pg (s:ByteArray) (lo:Option Value) (b:Option Nat) (K:Value→Hp→Prop) (h:Hp):Prop:=
 match b with
 | some b=>(match sb lo 0 b with|some l=>K (.string (s.extract l b)) h|none=>False)
 | none=>False
theorem SK {n:TypeId→Option Nat} {s:ByteArray} {lo hi:Option Value}:QV none none true n (.string s) lo hi none K h=Pg s lo (sb hi s.size s.size) K h:=rfl
theorem SL {e:Nat} {n b':TypeId→Option Nat} {z:TypeId→Option (List Value)} {k k':IntKind} {l c:Int}:Mh (some e) n b' z (.int k l) (.int k' c) K h=Rm e (n e) (b' e) (z e) l c K h:=rfl
theorem To {e n Oy:Nat} {z:List Value} {l c:Int}:Rm e (some n) (some Oy) (some z) l c K h =
  if z.length=n∧0≤l∧l≤c∧c≤9223372036854775807∧(Oy:Int)*c≤281474976710656 then K (.slice (some ⟨h.size,0,none⟩) l.toNat c.toNat) (h.push (.cells (Yn c.toNat z).toArray e)) else False:=rfl
theorem RN {t:TypeId} {x:Operand} {i:Nat}:QY P T (.field t x i) ty B F h = ∃u,TY (Mg P t i) (ta P) (tn P) (ev F x) (XM u h) h∧ap B u:=rfl
theorem RO {t:TypeId} {x i:Operand}:QY P T (.index t x i) ty B F h = ∃u,VV (Yh P t) (Jw P t) (ta P) (tn P) (ev F x) (ev F i) (XM u h) h∧ap B u:=rfl
theorem RP {t:TypeId} {x:Operand} {lo hi mx:Option Operand}:QY P T (.slice t x lo hi mx) ty B F h = ∃u,QV (Yh P t) (YY P t) (Jw P t) (tn P) (ev F x) (TZ F lo) (TZ F hi) (TZ F mx) (XM u h) h∧ap B u:=rfl
theorem Tp {t:TypeId} {parts:Array (Nat × Operand)}:QY P T (.build t parts) ty B F h = ∃u,Xr (tz P t) (Ov P t) (Yh P t) (tn P) (Wk F parts.toList) (XM u h) h∧ap B u:=rfl
theorem PL {l:List Value}:cl (.agg l.toArray)=l:=rfl
theorem VE {l:List Value} {t:TypeId} {b o:Nat}:hc (h.push (.cells l.toArray t)) ⟨b,o,none⟩=if b=h.size then nth l o else hc h ⟨b,o,none⟩:=by
 unfold hc
 simp only[Array.getElem?_push]
 by_cases hb:b=h.size
 ·subst hb;simp[Yt]
 ·simp[hb]
theorem RQ {l:List Value} {t:TypeId} {b o n:Nat}:rd (h.push (.cells l.toArray t)) ⟨b,o,none⟩ n=if b=h.size then (if o+n≤l.length then some ((l.drop o).take n) else none) else rd h ⟨b,o,none⟩ n:=by
 unfold rd
 simp only[Array.getElem?_push]
 by_cases hb:b=h.size
 ·subst hb;simp
 ·simp[hb]
def UN (x:Option Hp) (o:Obj):Option Hp:=match x with|some h=>some (h.push o)|none=>none
theorem WT {o:Obj}:UN (some h) o=some (h.push o):=rfl
theorem set_push {o o':Obj} {b:Nat} (hb:b<h.size):(h.push o).setIfInBounds b o'=(h.setIfInBounds b o').push o:=by
 apply Array.ext_getElem?
 intro i
 simp only[Array.getElem?_setIfInBounds,Array.getElem?_push,Array.size_push,Array.size_setIfInBounds]
 by_cases h1:b=i
 ·subst h1
  rw[if_pos rfl,if_pos (by omega),if_neg (by omega),if_pos rfl,if_pos hb]
 ·rw[if_neg h1]
  by_cases h2:i=h.size
  ·rw[if_pos h2,if_pos h2]
  ·rw[if_neg h2,if_neg h2,if_neg h1]
theorem Jo {o o':Obj}:(h.push o).setIfInBounds h.size o'=h.push o':=by
 apply Array.ext_getElem?
 intro i
 simp only[Array.getElem?_setIfInBounds,Array.getElem?_push,Array.size_push]
 by_cases h1:h.size=i
 ·subst h1;rw[if_pos rfl,if_pos (by omega),if_pos rfl]
 ·rw[if_neg h1,if_neg (fun e=>h1 e.symm),if_neg (fun e=>h1 e.symm)]
theorem SM {l:List Value} {t:TypeId} {b o:Nat} {v:Value}:We (h.push (.cells l.toArray t)) ⟨b,o,none⟩ v=if b=h.size then (if o<l.length∧YW v=true then some (h.push (.cells (l.set o v).toArray t)) else none) else UN (We h ⟨b,o,none⟩ v) (.cells l.toArray t):=by
 unfold We
 simp only[Array.getElem?_push]
 by_cases hb:b=h.size
 ·subst hb
  simp only[↓reduceIte,List.size_toArray,Nat.le_refl,true_and,Jo,List.setIfInBounds_toArray]
 ·simp only[if_neg hb]
  cases hx:h[b]? with
  | none=>rfl
  | some ob=>
   have Zs:=(Array.getElem?_eq_some_iff.1 hx).1
   cases ob with
   | cells c e fr=>
    obtain⟨lo,hi⟩:=fr
    simp only
    split
    ·simp only[UN,set_push Zs]
    ·rfl
   | _=>rfl
theorem RR {l:List Value} {t:TypeId} {b o:Nat} {vs:List Value}:wr (h.push (.cells l.toArray t)) ⟨b,o,none⟩ vs=if b=h.size then (if o+vs.length≤l.length∧vs.all YW=true then some (h.push (.cells (ZI l o vs).toArray t)) else none) else UN (wr h ⟨b,o,none⟩ vs) (.cells l.toArray t):=by
 unfold wr
 simp only[Array.getElem?_push]
 by_cases hb:b=h.size
 ·subst hb
  simp only[↓reduceIte,List.size_toArray,Nat.le_refl,true_and,Jo]
 ·simp only[if_neg hb]
  cases hx:h[b]? with
  | none=>rfl
  | some ob=>
   have Zs:=(Array.getElem?_eq_some_iff.1 hx).1
   cases ob with
   | cells c e fr=>
    obtain⟨lo,hi⟩:=fr
    simp only
    split
    ·simp only[UN,set_push Zs]
    ·rfl
   | _=>rfl
end
def Zp (h:Hp) (b o:Nat) (cs:List Value):Prop:=∀i (hi:i<cs.length),hc h ⟨b,o+i,none⟩=some cs[i]
def Sl (n:Nat) (h:Hp) (v:Value) (m:Nat) (cs:List Value):Prop:=
 ∃p cap,v=.slice p m cap∧cs.length=m*n∧(cs≠[]→∃b o,p=some ⟨b,o,none⟩∧Zp h b o cs)
def YX (B:Nat) (E:TypeId) (n:Nat) (h:Hp) (v:Value) (m:Nat) (cs:List Value):Prop:=
 ((∃p,v=.slice p 0 0)∧m=0∧cs=[]) ∨
 ∃b cap spare,B≤b∧v=.slice (some ⟨b,0,none⟩) m cap∧h[b]? = some (.cells (cs++spare).toArray E (0,0))∧cs.length=m*n∧spare.length=(cap-m)*n∧m≤cap
structure Zg (B:Nat) (h h':Hp):Prop where
 size:h.size≤h'.size
 block:∀b,b<B→h'[b]? = h[b]?
theorem Zg.refl (B:Nat) (h:Hp):Zg B h h:=⟨Nat.le_refl _,fun _ _=>rfl⟩
theorem Zg.trans {B:Nat} {h h' X3:Hp} (a:Zg B h h') (b:Zg B h' X3):Zg B h X3:=
 ⟨Nat.le_trans a.size b.size,fun k hk=>(b.block k hk).trans (a.block k hk)⟩
theorem Zg.mono {B B':Nat} {h h':Hp} (a:Zg B h h') (hB:B'≤B):Zg B' h h':=⟨a.size,fun k hk=>a.block k (Nat.lt_of_lt_of_le hk hB)⟩
theorem Zg.push {B:Nat} {h:Hp} (hB:B≤h.size) (o:Obj):Zg B h (h.push o):=
 ⟨by simp,fun k hk=>by rw[Array.getElem?_push,if_neg (by omega)]⟩
theorem Zg.set {B:Nat} {h:Hp} {b:Nat} (hb:B≤b) (o:Obj):Zg B h (h.setIfInBounds b o):=
 ⟨by simp,fun k hk=>by rw[Array.getElem?_setIfInBounds,if_neg (by omega)]⟩
theorem Zg.hc {B:Nat} {h h':Hp} (a:Zg B h h') {p:Addr} (hp:p.block<B):hc h' p=hc h p:=by unfold V.hc;rw[a.block _ hp]
theorem Zb {h:Hp} {b:Nat} {o:Obj} (hb:h[b]? = some o):b<h.size:=(Array.getElem?_eq_some_iff.1 hb).1
theorem XO {h:Hp} {p:Addr} {v:Value} (hp:hc h p=some v):p.block<h.size:=by
 unfold hc at hp
 cases hb:h[p.block]? with
 | none=>rw[hb]at hp;cases hp
 | some o=>exact Zb hb
theorem YK {h:Hp} {b:Nat} {c:Array Value} {e:TypeId} {fr:Nat × Nat} (hb:h[b]? = some (.cells c e fr)) (o:Nat):hc h ⟨b,o,none⟩=c[o]?:=by
 unfold hc;simp only[hb];rfl
theorem Zg.Zp {B:Nat} {h h':Hp} (a:Zg B h h') {b o:Nat} {cs:List Value} (hb:b<B) (Ye:Zp h b o cs):Zp h' b o cs:=
 fun i hi=>by rw[a.hc (by exact hb)];exact Ye i hi
theorem Sl.ZZ {n:Nat} {h h':Hp} {v:Value} {m:Nat} {cs:List Value} (s:Sl n h v m cs) (a:Zg h.size h h'):Sl n h' v m cs:=by
 obtain⟨p,cap,hv,hl,hc⟩:=s
 refine⟨p,cap,hv,hl,fun Z1=>?_⟩
 obtain⟨b,o,hp,Ye⟩:=hc Z1
 refine⟨b,o,hp,a.Zp ?_ Ye⟩
 have Wq:0<cs.length:=List.length_pos_iff.2 Z1
 exact XO (Ye 0 Wq)
theorem YX.sl {B:Nat} {E:TypeId} {n:Nat} {h:Hp} {v:Value} {m:Nat} {cs:List Value} (s:YX B E n h v m cs):Sl n h v m cs:=by
 rcases s with⟨⟨p,rfl⟩,rfl,rfl⟩|⟨b,cap,spare,hB,rfl,hb,hl,_,_⟩
 ·exact⟨p,0,rfl,by simp,fun h=>(h rfl).elim⟩
 ·refine⟨_,cap,rfl,hl,fun _=>⟨b,0,rfl,fun i hi=>?_⟩⟩
  rw[YK hb,Nat.zero_add]
  simp[List.getElem?_append_left hi]
theorem YX.nil (B:Nat) (E:TypeId) (n:Nat) (h:Hp):YX B E n h (.slice none 0 0) 0 []:=.inl ⟨⟨none,rfl⟩,rfl,rfl⟩
def Zj:Value→Option Nat
 | .slice (some a) _ cap=>if cap=0 then none else some a.block
 | _=>none
structure X6 (x:Option Nat) (h h':Hp):Prop where
 size:h.size≤h'.size
 block:∀b,b<h.size→x≠some b→h'[b]? = h[b]?
theorem X6.ZZ {x:Option Nat} {h h':Hp} (a:X6 x h h') {B:Nat} (hB:B≤h.size) (hx:∀b,x=some b→B≤b):Zg B h h':=
 ⟨a.size,fun k hk=>a.block k (by omega) (fun e=>by have:=hx k e;omega)⟩
theorem YX.Ph {B:Nat} {E:TypeId} {n:Nat} {h:Hp} {v:Value} {m:Nat} {cs:List Value} (s:YX B E n h v m cs):∀b,Zj v=some b→B≤b:=by
 intro b hb
 rcases s with⟨⟨p,rfl⟩,_,_⟩|⟨b',cap,spare,hB,rfl,_⟩
 ·cases p<;>simp[Zj]at hb
 ·simp only[Zj]at hb
  split at hb
  ·cases hb
  ·simp only[Option.some.injEq]at hb;omega
theorem YX.SN {B:Nat} {E:TypeId} {n:Nat} {h h':Hp} {v:Value} {m:Nat} {cs:List Value} (s:YX B E n h v m cs) {x:Option Nat} (a:X6 x h h') (hx:∀b,Zj v=some b→x≠some b):YX B E n h' v m cs:=by
 rcases s with s|⟨b,cap,spare,hB,rfl,hb,r⟩
 ·exact .inl s
 ·by_cases hc:cap=0
  ·subst hc
   obtain⟨r1,r2,r3⟩:=r
   have hm:m=0:=by omega
   subst hm
   exact .inl ⟨⟨_,rfl⟩,rfl,List.eq_nil_of_length_eq_zero (by simpa using r1)⟩
  ·exact .inr ⟨b,cap,spare,hB,rfl,by rw[a.block b (Zb hb) (hx b (by simp[Zj,hc]))];exact hb,r⟩
theorem X6.push {h:Hp} (o:Obj) {x:Option Nat}:X6 x h (h.push o):=⟨by simp,fun k hk _=>by rw[Array.getElem?_push,if_neg (by omega)]⟩
theorem X6.refl {h:Hp} {x:Option Nat}:X6 x h h:=⟨Nat.le_refl _,fun _ _ _=>rfl⟩
theorem YX.push {B:Nat} {E:TypeId} {n:Nat} {h:Hp} {v:Value} {m:Nat} {cs:List Value} (s:YX B E n h v m cs) (o:Obj):YX B E n (h.push o) v m cs:=
 s.SN (x:=none) (X6.push o) (fun _ _=>by simp)
theorem YX.ZZ {B C:Nat} {E:TypeId} {n:Nat} {h h':Hp} {v:Value} {m:Nat} {cs:List Value} (s:YX B E n h v m cs) (a:Zg C h h') (hC:h.size≤C):YX B E n h' v m cs:=
 s.SN (x:=none) ⟨a.size,fun b hb _=>a.block b (by omega)⟩ (fun _ _=>by simp)
theorem YX.mono {B B':Nat} {E:TypeId} {n:Nat} {h:Hp} {v:Value} {m:Nat} {cs:List Value} (s:YX B E n h v m cs) (hB:B'≤B):YX B' E n h v m cs:=by
 rcases s with s|⟨b,cap,spare,hb,r⟩
 ·exact .inl s
 ·exact .inr ⟨b,cap,spare,by omega,r⟩
section
variable {P:Program} {T:World} {K:Value→Hp→Prop} {F:Env} {h:Hp} {ty:TypeId}
theorem Zl {n m:Nat} {v:Value} {cs:List Value} (s:Sl n h v m cs) {Q:Array Value→Hp→Prop} (H:Q cs.toArray h):hw P (Builtin.firstCells n m v) Q h:=by
 obtain⟨p,cap,rfl,hl,hc⟩:=s
 cases p with
 | none=>
  have:cs=[]:=by
   cases cs with
   | nil=>rfl
   | cons x l=>obtain⟨b,o,hp,_⟩:=hc (by simp);cases hp
  subst this
  exact H
 | some a=>
  show hw P (loadCells a (m*n)) Q h
  rw[←hl]
  refine run_loadCells a cs _ 0 #[] (fun j hj=>?_) rfl (by simpa using H)
  obtain⟨b,o,hp,Ye⟩:=hc (by intro e;subst e;simp at hj)
  simp only[Option.some.injEq]at hp
  subst hp
  rw[ZD,Nat.zero_add,Ye j hj]
  simp[hj]
theorem Sl.lenOf {n m:Nat} {v:Value} {cs:List Value} (s:Sl n h v m cs) {Q:Nat→Hp→Prop}:hw P (Builtin.lenOf v) Q h=Q m h:=by
 obtain⟨p,cap,rfl,_,_⟩:=s;rfl
theorem XP (l r vs:List Value):ZI (l++r) l.length vs=l++ZI r 0 vs:=by
 induction l with
 | nil=>simp
 | cons x l ih=>
  cases vs with
  | nil=>simp[ZI]
  | cons v vs=>simp only[List.cons_append,List.length_cons,ZI];rw[ih]
theorem Y9 (r vs:List Value) (h:vs.length≤r.length):ZI r 0 vs=vs++r.drop vs.length:=by
 induction vs generalizing r with
 | nil=>simp[ZI]
 | cons v vs ih=>
  cases r with
  | nil=>simp at h
  | cons x r=>simp only[ZI,List.cons_append,List.length_cons,List.drop_succ_cons];rw[ih r (by simpa using h)]
theorem Z2 (z:Array Value) (n:Nat):(Builtin.zeroCells z n).size=n*z.size:=by simp[Builtin.zeroCells]
theorem YP (Yj cap bytes:Nat) (Zs:cap<Yj) (hb:Yj*bytes≤140737488355328):Builtin.nextslicecap Yj cap*bytes≤281474976710656:=by
 have g1:∀(r c:Nat),Yj≤c→Builtin.growBy Yj r c=c:=by
  intro r c hc
  cases r with
  | zero=>rfl
  | succ r=>simp[Builtin.growBy,hc]
 have g2:∀(r c:Nat),c<Yj→Builtin.growBy Yj r c≤Yj+(Yj+768)/4:=by
  intro r
  induction r with
  | zero=>intro c hc;simp only[Builtin.growBy];omega
  | succ r ih=>
   intro c hc
   simp only[Builtin.growBy]
   rw[if_neg (by omega)]
   by_cases h2:c+(c+768)/4<Yj
   ·exact ih _ h2
   ·rw[g1 r _ (by omega)];omega
 have key:Builtin.nextslicecap Yj cap≤2*Yj+192:=by
  unfold Builtin.nextslicecap
  split
  ·omega
  ·split
   ·omega
   ·have:=g2 4 cap Zs;omega
 have e1:Builtin.nextslicecap Yj cap*bytes≤(2*Yj+192)*bytes:=Nat.mul_le_mul_right _ key
 unfold Builtin.nextslicecap
 split
 ·omega
 ·rename_i h1
  split
  ·have:2*cap*bytes≤2*Yj*bytes:=Nat.mul_le_mul_right _ (by omega)
   have e:2*Yj*bytes=2*(Yj*bytes):=by rw[Nat.mul_assoc]
   omega
  ·rename_i h2
   have hg:=g2 4 cap Zs
   have h3:Builtin.growBy Yj 4 cap*bytes≤(Yj+(Yj+768)/4)*bytes:=Nat.mul_le_mul_right _ hg
   have h4:(Yj+(Yj+768)/4)*bytes≤(2*Yj)*bytes:=Nat.mul_le_mul_right _ (by omega)
   have e:2*Yj*bytes=2*(Yj*bytes):=by rw[Nat.mul_assoc]
   omega
theorem WU {sT xT E E' B n m k bytes:Nat} {v s:Value} {cs news zs:List Value} {cb:Array Bool} (X7:YY P sT=some E) (SO:P.underlying xT=some (.slice E')) (hn:tn P E=some n) (hz:tz P E=some zs) (PM:zs.length=n) (Xx:tb P E=some bytes)
  (own:YX B E n h v m cs) (hB:B≤h.size) (src:Sl n h s k news) (JS:news.all YW=true) (YU:(m+k)*bytes≤140737488355328) (OA:1≤bytes)
  (H:∀v' h',YX B E n h' v' (m+k) (cs++news)→X6 (Zj v) h h'→K v' h'):Ql P T .append #[sT,xT] ty cb [v,s] K h:=by
 unfold YY at X7
 split at X7
 ·rename_i e' hu
  simp only[Option.some.injEq]at X7
  subst X7
  show hw P (do pure (.value (←Builtin.append_ #[sT,xT] ty #[v,s]))) (ZQ P T K) h
  rw[Za]
  show hw P (Builtin.append_ #[sT,xT] ty #[v,s]) K h
  obtain⟨i0,Qm⟩:∃i,P.info? e'=some i:=by
   unfold tn at hn
   cases hi:P.info? e' with
   | none=>rw[hi]at hn;cases hn
   | some i=>exact⟨i,rfl⟩
  have V0:i0.bytes=bytes:=by unfold tb at Xx;rw[Qm]at Xx;simpa using Xx
  obtain⟨z0,PN,PO⟩:∃z,i0.zero=some z∧z.cells.toList=zs:=by
   unfold tz at hz;rw[Qm]at hz
   cases Wp:i0.zero with
   | none=>rw[Option.bind_some,Wp]at hz;cases hz
   | some z=>rw[Option.bind_some,Wp]at hz;exact⟨z,rfl,by simpa using hz⟩
  have Px:∃base cap,v=.slice base m cap:=by
   rcases own with⟨⟨p,rfl⟩,rfl,_⟩|⟨b,cap,sp,_,rfl,_⟩
   ·exact⟨_,_,rfl⟩
   ·exact⟨_,_,rfl⟩
  obtain⟨base,cap,hv⟩:=Px
  subst hv
  have PQ:∀{Q:Value→Hp→Prop} (g:Hp),hw P (zeroValue e') Q g=Q z0 g:=fun {Q} g=>by
   unfold zeroValue;rw[Za,ZC Qm];simp only[PN];rfl
  simp only[Builtin.append_,List.getElem?_toArray,List.getElem?_cons_zero,List.getElem?_cons_succ,Za,Zd,Zc hu,Zc SO,run_sizeOf hn,Bool.false_eq_true,if_false,src.lenOf,Bool.not_false,if_true]
  by_cases Yk:m+k≤cap
  ·rw[if_pos Yk,Za]
   refine Zl src ?_
   have Xf:news.length=k*n:=by obtain⟨_,_,_,hl,_⟩:=src;exact hl
   by_cases Z1:news=[]
   ·subst Z1
    have Pj:hw P (match base with|some a=>(do storeCells (a.add (m*n)) [];pure (Value.slice base (m+k) cap))|none=>pure (Value.slice base (m+k) cap)) K h=K (.slice base (m+k) cap) h:=by
     cases base<;>rfl
    have hK:K (.slice base (m+k) cap) h:=by
     refine H _ _ ?_ X6.refl
     rcases own with⟨⟨p,h1⟩,h2,h3⟩|⟨b,UO,spare,WV,h1,hb,hl,Um,Pk⟩
     ·simp only[Value.slice.injEq]at h1
      obtain⟨rfl,rfl,rfl⟩:=h1
      have hk:k=0:=by omega
      subst hk;subst h3
      exact .inl ⟨⟨_,rfl⟩,rfl,rfl⟩
     ·simp only[Value.slice.injEq]at h1
      obtain⟨rfl,_,rfl⟩:=h1
      have Pl:k*n=0:=by simpa using Xf.symm
      refine .inr ⟨b,cap,spare,WV,rfl,by simpa using hb,by rw[List.append_nil,hl,Nat.add_mul,Pl];rfl,?_,Yk⟩
      rw[Um,Nat.sub_mul,Nat.sub_mul,Nat.add_mul,Pl,Nat.add_zero]
    cases base<;>exact hK
   rcases own with⟨⟨p,h1⟩,h2,h3⟩|⟨b,UO,spare,WV,h1,hb,hl,Um,Pk⟩
   ·simp only[Value.slice.injEq]at h1
    obtain⟨rfl,rfl,rfl⟩:=h1
    have hk:k=0:=by omega
    subst hk
    exact (Z1 (List.eq_nil_of_length_eq_zero (by simpa using Xf))).elim
   ·simp only[Value.slice.injEq]at h1
    obtain⟨rfl,_,rfl⟩:=h1
    simp only[Za,ZD]
    have Xu:news.length≤spare.length:=by rw[Xf,Um];exact Nat.mul_le_mul_right _ (by omega)
    refine Zv (e:=e') (lo:=0) (hi:=0) rfl (Nat.le_refl _) news 0 h (cs++spare).toArray hb ?_ JS ?_
    ·simp;rw[←hl];omega
    ·simp only[Zd,Nat.zero_add,Nat.add_zero]
     refine H _ _ (.inr ⟨b,cap,spare.drop news.length,WV,rfl,?_,?_,?_,Yk⟩) ⟨by simp,fun b' X4 hx=>?_⟩
     ·rw[Array.getElem?_setIfInBounds,if_pos rfl,if_pos (Zb hb)]
      rw[←hl,XP,Y9 _ _ Xu,List.append_assoc]
     ·rw[List.length_append,hl,Xf,Nat.add_mul]
     ·rw[List.length_drop,Um,Xf,←Nat.sub_mul];congr 1;omega
     ·rw[Array.getElem?_setIfInBounds,if_neg]
      intro e;subst e
      have OV:cap≠0:=by
       intro h0;subst h0
       have:k=0:=by omega
       subst this
       exact Z1 (List.eq_nil_of_length_eq_zero (by simpa using Xf))
      exact hx (by simp[Zj,OV])
  ·rw[if_neg Yk]
   have Q4:¬Builtin.nextslicecap (m+k) cap*i0.bytes>2 ^ 48:=by
    rw[V0]
    have:=YP (m+k) cap bytes (by omega) YU
    omega
   have WW:¬i0.bytes=0:=by rw[V0];omega
   simp only[Za,ZC Qm,WW,or_false,and_false,if_false,if_neg Q4]
   intro t
   obtain⟨c,hc⟩:=X2 (Question.cut (Question.appendCap (m+k) cap e') t)
   have PR:m+k≤c:=by rw[hc];simp only[Question.cut];omega
   rw[←hc]
   have QX:∀{Q:Unit→Hp→Prop} (b:Nat) (g:Hp),Q () g→hw P (askRoom b) Q g:=fun {Q} b g q=>by
    unfold askRoom;split<;>exact q
   refine QX _ _ (Zl own.sl (Zl src ?_))
   rw[PQ]
   have PS:z0.cells.size=n:=by rw[←PM,←PO];simp
   refine H (.slice (some ⟨h.size,0,none⟩) (m+k) c) _ (.inr ⟨h.size,c,(Builtin.zeroCells z0.cells (c-(m+k))).toList,hB,rfl,?_,?_,?_,PR⟩) (X6.push _)
   ·rw[Array.getElem?_push_size]
    simp
   ·have Xf:news.length=k*n:=by obtain⟨_,_,_,hl,_⟩:=src;exact hl
    have ZR:cs.length=m*n:=by obtain⟨_,_,_,hl,_⟩:=own.sl;exact hl
    rw[List.length_append,ZR,Xf,Nat.add_mul]
   ·rw[Array.length_toList,Z2,PS]
 ·cases X7
def bv (x:Nat):Value:=.int .u8 x
structure Bs (h:Hp) (v:Value) (l:List Nat):Prop where
 sl:Sl 1 h v l.length (l.map bv)
 byte:∀x∈l,x<256
structure Xg (B:Nat) (E:TypeId) (h:Hp) (v:Value) (l:List Nat):Prop where
 own:YX B E 1 h v l.length (l.map bv)
 byte:∀x∈l,x<256
theorem Xg.bs {B:Nat} {E:TypeId} {h:Hp} {v:Value} {l:List Nat} (s:Xg B E h v l):Bs h v l:=⟨s.own.sl,s.byte⟩
theorem Bs.ZZ {h h':Hp} {v:Value} {l:List Nat} (s:Bs h v l) (a:Zg h.size h h'):Bs h' v l:=⟨s.sl.ZZ a,s.byte⟩
theorem Xg.ZZ {B C:Nat} {E:TypeId} {h h':Hp} {v:Value} {l:List Nat} (s:Xg B E h v l) (a:Zg C h h') (hC:h.size≤C):Xg B E h' v l:=⟨s.own.ZZ a hC,s.byte⟩
theorem Xg.mono {B B':Nat} {E:TypeId} {h:Hp} {v:Value} {l:List Nat} (s:Xg B E h v l) (hB:B'≤B):Xg B' E h v l:=⟨s.own.mono hB,s.byte⟩
theorem Xg.push {B:Nat} {E:TypeId} {h:Hp} {v:Value} {l:List Nat} (s:Xg B E h v l) (o:Obj):Xg B E (h.push o) v l:=⟨s.own.push o,s.byte⟩
theorem Xg.nil (B:Nat) (E:TypeId) (h:Hp):Xg B E h (.slice none 0 0) []:=⟨YX.nil B E 1 h,fun _ h=>by cases h⟩
theorem WX (l:List Nat):(l.map bv).all YW=true:=by simp[bv,YW]
theorem Bs.open {v:Value} {l:List Nat} (s:Bs h v l):∃p cap,v=.slice p l.length cap∧(l≠[]→∃b o,p=some ⟨b,o,none⟩∧b<h.size∧∀i (hi:i<l.length),hc h ⟨b,o+i,none⟩=some (.int .u8 (l[i]:Nat))):=by
 obtain⟨⟨p,cap,hv,_,hc⟩,_⟩:=s
 refine⟨p,cap,hv,fun Z1=>?_⟩
 obtain⟨b,o,hp,Ye⟩:=hc (by simpa using Z1)
 refine⟨b,o,hp,?_,fun i hi=>?_⟩
 ·exact XO (Ye 0 (by simpa using List.length_pos_iff.2 Z1))
 ·have:=Ye i (by simpa using hi)
  simpa [bv] using this
theorem Q5:∀(l:List Nat) (s:ByteArray) {Q:Value→Hp→Prop},Q (.string ⟨s.data++(l.map UInt8.ofNat).toArray⟩) h →
  hw P (do
   let s ←forIn (l.map bv) s fun c (s:ByteArray)=>do
    let .int .u8 n:=c|stuck "bytesToString: byte expected"
    pure (ForInStep.yield (s.push (UInt8.ofNat n.toNat)))
   pure (Value.string s)) Q h:=by
 intro l
 induction l with
 | nil=>intro s Q H;simpa [Zd] using H
 | cons x l ih=>
  intro s Q H
  rw[List.map_cons,List.forIn_cons,Za,Za]
  show hw P _ _ h
  have:=ih (s.push (UInt8.ofNat x)) (Q:=Q) (by simpa [ByteArray.push] using H)
  rw[Za]at this
  simpa [bv,Zd] using this
theorem Ya {S D E:TypeId} {v:Value} {l:List Nat} (hS:P.underlying S=some (.slice E)) (hD:P.underlying D=some .string) (hE:P.underlying E=some (.int .u8)) (s:Bs h v l)
  (H:K (.string ⟨(l.map UInt8.ofNat).toArray⟩) h):YZ P S D v K h:=by
 have s0:=s.sl
 obtain⟨⟨p,cap,rfl,hl,hc⟩,hb⟩:=s
 unfold YZ convert
 rw[Za,Zc hS,Za,Zc hD]
 simp only
 rw[Za,Zc hE]
 unfold Conv.bytesToString
 cases p with
 | none=>
  have:l=[]:=by
   cases l with
   | nil=>rfl
   | cons x l=>obtain⟨b,o,hp,_⟩:=hc (by simp);cases hp
  subst this
  exact H
 | some a=>
  simp only
  rw[Za]
  have h1:=Zl (P:=P) s0 (Q:=fun cs g=>hw P (do
   let s ←forIn cs ByteArray.empty fun c (s:ByteArray)=>do
    let .int .u8 n:=c|stuck "bytesToString: byte expected"
    pure (ForInStep.yield (s.push (UInt8.ofNat n.toNat)))
   pure (Value.string s)) K g)
  unfold Builtin.firstCells at h1
  rw[Nat.mul_one]at h1
  refine h1 ?_
  rw[List.forIn_toArray]
  exact Q5 l _ (by simpa using H)
theorem SP (l k:List Nat) (hl:∀x∈l,x<256) (hk:∀x∈k,x<256):((⟨(l.map UInt8.ofNat).toArray⟩:ByteArray).toList == (⟨(k.map UInt8.ofNat).toArray⟩:ByteArray).toList)=decide (l=k):=by
 have e:∀l:List Nat,(⟨(l.map UInt8.ofNat).toArray⟩:ByteArray).toList=l.map UInt8.ofNat:=by
  intro l
  rw[ByteArray.toList_eq]
 rw[e,e,Bool.eq_iff_iff,beq_iff_eq,decide_eq_true_eq]
 constructor
 ·intro h
  have h2:(l.map UInt8.ofNat).map UInt8.toNat=(k.map UInt8.ofNat).map UInt8.toNat:=by rw[h]
  rw[List.map_map,List.map_map]at h2
  have g:∀l:List Nat,(∀x∈l,x<256)→l.map (UInt8.toNat ∘ UInt8.ofNat)=l:=by
   intro l hl
   conv=>rhs;rw[←List.map_id l]
   refine List.map_congr_left fun x hx=>?_
   have:=hl x hx
   simp;omega
  rwa [g l hl,g k hk]at h2
 ·intro h;rw[h]
end
attribute [go_sem] Rs PC Rt PD Ru Sa V3 Rv Rw T7 T8 V2 T9 Wu T5 Wr Wt UC T4
 Xc PJ Sj V8 RC TN ZG V9 RD Qp Yu WB Ta cl Tb Tc QJ JX Sk WC UG Q0 Qt
 JY WD UH JZ WE UI RF Td Te J0 Q1 Tf WG
 Sm Sn So Sp Sq Sr RG Ss UJ Su Sv Sw Sx Sy Sz SA SB RH RI RJ Th UK
 Ti Tj Q2 Qu RK RL Sd Wv Ww UD PE Rx TO Se Wx Sg Wy Sh V4 Wz V5 UE PF Rz V6 V7 UF JW RA QZ RB PH Si PI Xt
 JQ ZM Xp Option.map_some Option.bind_some Option.isSome_some decide_eq_true_eq decide_eq_false_iff_not
attribute [go_sem] Tl WH UL Tm Qv WI Q3 WJ J1 Qw WK UM Tn SE WL SF RM PK WM WN WO WQ WR SI WS SJ SK
 SL To RN RO RP Tp PL VE RQ WT SM RR Wk TZ nth ZI Wl JH YW List.toList_toArray List.length_cons List.length_nil List.drop_succ_cons List.drop_zero List.take_succ_cons List.take_zero List.set_cons_zero List.set_cons_succ
 List.all_cons List.all_nil Bool.and_true Array.size_push Nat.zero_add List.take_nil List.drop_nil
def vi:Value→Int|.int _ n=>n|_=>0
theorem ZH {α:Type} (l:List α) (i:Nat) (hi:i<l.length):l.take (i+1)=l.take i++[l[i]]:=List.take_succ_eq_append_getElem hi
def Ie (n:Int):Int:=IntKind.i64.wrap n
theorem WY (n:Int):IntKind.i64.wrap n=if -9223372036854775808≤n∧n≤9223372036854775807 then n else Ie n:=by
 split
 ·rename_i h;exact IntWalk.i64_in n h
 ·rfl
theorem UP (n:Int):IntKind.u8.wrap n=n%256:=by simp[IntKind.wrap,IntKind.bits,IntKind.signed]
theorem Q6 (n:Int):IntKind.u32.wrap n=n%4294967296:=by simp[IntKind.wrap,IntKind.bits,IntKind.signed]
theorem Q7 (n:Int):IntKind.u64.wrap n=n%18446744073709551616:=by simp[IntKind.wrap,IntKind.bits,IntKind.signed]
attribute [go_sem] WY UP Q6 Q7 true_and and_true ne_eq not_true_eq_false not_false_eq_true decide_true decide_false Bool.false_eq_true Int.toNat_natCast Nat.mul_one
open Go.ChangeShapes Go.WideShapes Go.ChangeAt Go.RowKit
def fit (P:Program) (h:Hp):Nat→TypeId→List Value→Prop
 | 0,_,_=>False
 | k+1,t,cs=>
  match P.underlying t with
  | some .bool=>∃b,cs=[.bool b]
  | some (.int i)=>∃n,cs=[.int i n]∧(Lit.int i n).wf=true
  | some .string=>∃s,cs=[.string s]∧s.size≤reachBytes
  | some (.slice e)=>∃p len cap,cs=[.slice p len cap]∧len≤cap∧cap*P.bytesOf e≤reachBytes ∧
    (len≠0→P.cellsOf e≠0→∃b o,p=some ⟨b,o,none⟩∧b<h.size∧∀i,i<len→∃ds,ds.length=P.cellsOf e∧Zp h b (o+i*P.cellsOf e) ds∧fit P h k e ds)
  | some (.struct fs)=>cs.length=P.cellsOf t∧∀f∈fs.toList,fit P h k f.type ((cs.drop f.offset).take (P.cellsOf f.type))
  | some (.array n e)=>cs.length=P.cellsOf t∧∀i,i<n→fit P h k e ((cs.drop (i*P.cellsOf e)).take (P.cellsOf e))
  | _=>True
def Tq (P:Program) (h:Hp) (k:Nat) (t:TypeId) (v:Value):Prop:=
 match ta P t with
 | some true=>∃cs:List Value,v=.agg cs.toArray∧fit P h k t cs
 | _=>fit P h k t [v]
def fitAll (P:Program) (h:Hp):List TypeId→List Value→Prop
 | [],[]=>True
 | t :: ts,v :: vs=>(∃k,Tq P h k t v)∧fitAll P h ts vs
 | _,_=>False
theorem YL {α β:Type} {f:α→Option β}:∀{l:List α} {r:List β},l.mapM f=some r→r.length=l.length∧∀(i:Nat) (x:α) (y:β),l[i]? = some x→r[i]? = some y→f x=some y
 | [],r,h=>by
  simp only[List.mapM_nil,pure,Option.some.injEq]at h
  subst h
  exact⟨rfl,fun i x y hx _=>by simp at hx⟩
 | a :: l,r,h=>by
  rw[List.mapM_cons]at h
  cases ha:f a with
  | none=>rw[ha]at h;cases h
  | some b=>
   rw[ha]at h
   cases hl:l.mapM f with
   | none=>simp[hl]at h
   | some bs=>
    simp[hl]at h
    subst h
    obtain⟨h1,h2⟩:=YL hl
    refine⟨by simp[h1],fun i x y hx hy=>?_⟩
    cases i with
    | zero=>simp at hx hy;subst hx;subst hy;exact ha
    | succ i=>simp at hx hy;exact h2 i x y hx hy
theorem J3 {w:World} {base:Nat} {a:Addr} {n:Nat} {ds:List Value} (h:w.cells? base a n=some ds):ds.length=n∧∀i (hi:i<ds.length),w.cell? (a.add i)=some ds[i]:=by
 unfold World.cells? at h
 split at h
 ·obtain⟨h1,h2⟩:=YL h
  rw[List.length_range]at h1
  refine⟨h1,fun i hi=>h2 i i ds[i] ?_ ?_⟩
  ·rw[List.getElem?_range (by omega)]
  ·exact List.getElem?_eq_getElem hi
 ·cases h
theorem Tt {w:World} {a:Addr} {i:Nat} {v:Value} (h:w.cell? (a.add i)=some v) (hi:i=0):a.spot=none:=by
 subst hi
 have e:a.add 0=a:=by simp[Addr.add]
 rw[e]at h
 unfold World.cell? at h
 split at h
 ·split at h
  ·cases h
  ·rename_i hs;simpa using hs
 ·cases h
theorem YV {H:Type} {P:Program} {q:Nat→Bool}:∀(ts:List TypeId) (ds:List (DataW H)),(DataW.weightsEach P ts ds).all q=true→∀(i:Nat) (t:TypeId) (d:DataW H),ts[i]? = some t→ds[i]? = some d→(d.weights P t).all q=true
 | [],_,_,i,t,d,ht,_=>by simp at ht
 | t :: ts,[],_,i,t',d,_,hd=>by simp at hd
 | t :: ts,d :: ds,h,i,t',d',ht,hd=>by
  simp only[DataW.weightsEach,List.all_append,Bool.and_eq_true]at h
  cases i with
  | zero=>simp at ht hd;subst ht;subst hd;exact h.1
  | succ i=>simp at ht hd;exact YV ts ds h.2 i t' d' ht hd
theorem Yv {H:Type} {P:Program} {e:TypeId} {q:Nat→Bool}:∀(ds:List (DataW H)),(DataW.weightsAll P e ds).all q=true→∀(i:Nat) (d:DataW H),ds[i]? = some d→(d.weights P e).all q=true
 | [],_,i,d,hd=>by simp at hd
 | d :: ds,h,i,d',hd=>by
  simp only[DataW.weightsAll,List.all_append,Bool.and_eq_true]at h
  cases i with
  | zero=>simp at hd;subst hd;exact h.1
  | succ i=>simp at hd;exact Yv ds h.2 i d' hd
theorem YB {H:Type} {enc:TypeId × Value→H} {P:Program} {w:World}:∀(k:Nat) (t:TypeId) (cs:List Value) (d:DataW H) (ps:List MemPlace),
  DataW.trod enc P w 0 (fun _=>true) true k t cs=some (d,ps)→(d.weights P t).all (· ≤ reachBytes)=true→fit P w.heap k t cs
 | 0,t,cs,d,ps,h,_=>by simp[DataW.trod]at h
 | k+1,t,cs,d,ps,h,hw=>by
  unfold DataW.trod at h
  unfold fit
  split at h
  ·rename_i hu;rw[hu];exact⟨_,rfl⟩
  ·rename_i i i' n hu
   rw[hu]
   split at h
   ·rename_i hc;obtain⟨rfl,hc⟩:=hc;exact⟨_,rfl,hc⟩
   ·cases h
  ·rename_i hu;rw[hu];trivial
  ·rename_i s hu
   rw[hu]
   split at h
   ·simp only[Option.some.injEq,Prod.mk.injEq]at h
    obtain⟨rfl,_⟩:=h
    refine⟨_,rfl,?_⟩
    simpa [DataW.weights] using hw
   ·cases h
  ·rename_i hu;rw[hu];trivial
  ·rename_i hu;rw[hu];trivial
  ·rename_i e hu
   rw[hu]
   exact⟨_,_,_,rfl,Nat.le_refl _,by simp,fun h=>(h rfl).elim⟩
  ·rename_i e a len cap hu
   rw[hu]
   split at h
   ·rename_i XI
    simp only[if_true]at h
    cases he:((List.range len).mapM fun i=>(w.cells? 0 (a.add (i*P.cellsOf e)) (P.cellsOf e)).bind (DataW.trod enc P w 0 (fun _=>true) true k e)) with
    | none=>rw[he]at h;cases h
    | some elems=>
     rw[he]at h
     simp only[Option.bind_some]at h
     cases hr:((List.range (cap-len)).mapM fun j=>(w.cells? 0 (a.add ((len+j)*P.cellsOf e)) (P.cellsOf e)).bind (DataW.trod enc P w 0 (fun _=>true) true k e)) with
     | none=>rw[hr]at h;cases h
     | some rest=>
      rw[hr]at h
      simp only[Option.map_some,Option.some.injEq,Prod.mk.injEq]at h
      obtain⟨rfl,_⟩:=h
      obtain⟨l1,g1⟩:=YL he
      obtain⟨l2,_⟩:=YL hr
      rw[List.length_range]at l1 l2
      simp only[DataW.weights,hu,List.all_cons,List.all_append,Bool.and_eq_true,List.length_map,decide_eq_true_eq]at hw
      refine⟨_,_,_,rfl,XI.2.1,?_,fun hlen Kh=>?_⟩
      ·have:elems.length+rest.length=cap:=by omega
       rw[←this];exact hw.1
      ·have OW:∀i,i<len→∃ds x,w.cells? 0 (a.add (i*P.cellsOf e)) (P.cellsOf e)=some ds∧elems[i]? = some x∧DataW.trod enc P w 0 (fun _=>true) true k e ds=some x:=by
        intro i hi
        have hx:elems[i]? = some elems[i]:=List.getElem?_eq_getElem (by omega)
        have:=g1 i i elems[i] (by rw[List.getElem?_range hi]) hx
        cases hc:w.cells? 0 (a.add (i*P.cellsOf e)) (P.cellsOf e) with
        | none=>rw[hc]at this;cases this
        | some ds=>rw[hc]at this;exact⟨ds,_,rfl,hx,this⟩
       obtain⟨Ki,x0,M0,_,_⟩:=OW 0 (by omega)
       obtain⟨q1,q2⟩:=J3 M0
       have e0:a.add (0*P.cellsOf e)=a:=by simp[Addr.add]
       rw[e0]at q2
       have Um:a.spot=none:=Tt (q2 0 (by omega)) rfl
       have PT:w.cell? a=some Ki[0]:=by have:=q2 0 (by omega);simpa [Addr.add] using this
       have Zs:a.block<w.heap.size:=XO (h:=w.heap) (p:=a) (v:=Ki[0]) PT
       refine⟨a.block,a.off,?_,Zs,fun i hi=>?_⟩
       ·obtain⟨b,o,s⟩:=a;simp only at Um;subst Um;rfl
       ·obtain⟨ds,x,hc,hx,ht⟩:=OW i hi
        obtain⟨r1,r2⟩:=J3 hc
        refine⟨ds,r1,fun j hj=>?_,?_⟩
        ·have:=r2 j hj
         rw[Y8 a _ Um,ZD]at this
         exact this
        ·refine YB k e ds x.1 x.2 ht ?_
         exact Yv _ hw.2.1 i x.1 (by rw[List.getElem?_map,hx];rfl)
   ·cases h
  ·rename_i cs _ _ fs hu
   rw[hu]
   split at h
   ·rename_i hlen
    cases hm:(fs.toList.mapM fun f=>DataW.trod enc P w 0 (fun _=>true) true k f.type ((cs.drop f.offset).take (P.cellsOf f.type))) with
    | none=>rw[hm]at h;cases h
    | some xs=>
     rw[hm]at h
     simp only[Option.map_some,Option.some.injEq,Prod.mk.injEq]at h
     obtain⟨rfl,_⟩:=h
     obtain⟨l1,g1⟩:=YL hm
     refine⟨hlen,fun f hf=>?_⟩
     obtain⟨i,hi,T0⟩:=List.mem_iff_getElem.1 hf
     have hx:xs[i]? = some xs[i]:=List.getElem?_eq_getElem (by omega)
     have OX:fs.toList[i]? = some f:=by rw[List.getElem?_eq_getElem hi,T0]
     refine YB k _ _ xs[i].1 xs[i].2 (g1 i f xs[i] OX hx) ?_
     simp only[DataW.weights,hu]at hw
     exact YV _ _ hw i f.type xs[i].1 (by rw[List.getElem?_map,OX];rfl) (by rw[List.getElem?_map,hx];rfl)
   ·cases h
  ·rename_i cs _ _ n e hu
   rw[hu]
   split at h
   ·rename_i hlen
    cases hm:((List.range n).mapM fun i=>DataW.trod enc P w 0 (fun _=>true) true k e ((cs.drop (i*P.cellsOf e)).take (P.cellsOf e))) with
    | none=>rw[hm]at h;cases h
    | some xs=>
     rw[hm]at h
     simp only[Option.map_some,Option.some.injEq,Prod.mk.injEq]at h
     obtain⟨rfl,_⟩:=h
     obtain⟨l1,g1⟩:=YL hm
     rw[List.length_range]at l1
     refine⟨hlen,fun i hi=>?_⟩
     have hx:xs[i]? = some xs[i]:=List.getElem?_eq_getElem (by omega)
     refine YB k _ _ xs[i].1 xs[i].2 (g1 i i xs[i] (by rw[List.getElem?_range hi]) hx) ?_
     simp only[DataW.weights,hu]at hw
     exact Yv _ hw i xs[i].1 (by rw[List.getElem?_map,hx];rfl)
   ·cases h
  all_goals first|(cases h;done)|(rename_i hu;rw[hu];trivial)
theorem RS {P:Program} {w:World} {r:Reach} {base:Nat} {t:TypeId} {cs:Array Value} (ha:ta P t=some false) (h:Value.okWide P w r base t (.agg cs)):False:=by
 unfold ta at ha
 unfold Value.okWide at h
 cases hu:P.underlying t with
 | none=>rw[hu]at ha;cases ha
 | some d=>
  rw[hu]at ha h
  cases d<;>simp at ha<;>simp[Cell.okWide,Cell.ok,hu]at h
theorem RT {H:Type} {enc:TypeId × Value→H} {P:Program} {w:World} {r:Reach} {base:Nat} {t:TypeId} {v:Value} {d:DataW H} {ps:List MemPlace}
  (Kj:(ta P t).isSome=true) (ZW:Value.okWide P w r base t v) (h:DataW.Trod enc P w 0 (fun _=>true) true t v d ps) (hw:(d.weights P t).all (· ≤ reachBytes)=true):∃k,Tq P w.heap k t v:=by
 obtain⟨k,hk⟩:=h
 have hf:=YB k t _ d ps hk hw
 refine⟨k,?_⟩
 unfold Tq
 cases ha:ta P t with
 | none=>rw[ha]at Kj;cases Kj
 | some b=>
  cases b with
  | true=>
   unfold ta at ha
   unfold Value.okWide at ZW
   cases hu:P.underlying t with
   | none=>rw[hu]at ha;cases ha
   | some d'=>
    rw[hu]at ha ZW
    have:∃cs,v=.agg cs:=by
     cases d'<;>simp at ha<;>(obtain⟨cs,hv,_⟩:=ZW;exact⟨cs,hv⟩)
    obtain⟨cs,rfl⟩:=this
    exact⟨cs.toList,by simp,hf⟩
  | false=>
   have:v.cells.toList=[v]:=by
    cases v with
    | agg cs=>exact (RS ha ZW).elim
    | _=>rfl
   rw[this]at hf
   exact hf
theorem QK {H:Type} {enc:TypeId × Value→H} {P:Program} {w:World} {base:Nat}:∀(ts:List TypeId) (vs:List Value) (ds:List (DataW H)) (ps:List MemPlace),
  ts.all (fun t=>(ta P t).isSome)=true→(∀(j:Nat) t v,ts[j]? = some t→vs[j]? = some v→Value.okWide P w .any base t v)→DataW.TrodAll enc P w 0 (fun _=>true) true ts vs ds ps →
  (DataW.weightsEach P ts ds).all (· ≤ reachBytes)=true→fitAll P w.heap ts vs
 | [],vs,ds,ps,_,_,h,_=>by
  obtain⟨rfl,rfl,rfl⟩:=trodAll_nil h
  trivial
 | t :: ts,vs,ds,ps,ha,hv,h,hw=>by
  obtain⟨v,OY,d,OZ,p,q,rfl,rfl,rfl,h1,h2⟩:=trodAll_cons h
  simp only[List.all_cons,Bool.and_eq_true]at ha
  simp only[DataW.weightsEach,List.all_append,Bool.and_eq_true]at hw
  exact⟨RT ha.1 (hv 0 t v rfl rfl) h1 hw.1,QK ts OY OZ q ha.2 (fun j t v ht O0=>hv (j+1) t v ht O0) h2 hw.2⟩
theorem Xh {H:Type} {enc:TypeId × Value→H} {P:Program} (hl:laidOutB P=true) {W W':World} (hb:Below W.heap.size W W'):∀(ts:List TypeId) (vs:List Value) (ds:List (DataW H)) (ps:List MemPlace),
  ts.all (fun t=>P.readableRec t&&decide (t<P.types.size))=true→DataW.TrodAll enc P W 0 (fun _=>true) true ts vs ds ps→(∀x∈ps,x.block<W.heap.size) →
  DataW.TrodAll enc P W' 0 (fun b=>decide (b<W.heap.size)) true ts vs ds ps
 | [],vs,ds,ps,_,h,_=>by
  obtain⟨rfl,rfl,rfl⟩:=trodAll_nil h
  rfl
 | t :: ts,vs,ds,ps,ha,h,Zs=>by
  obtain⟨v,OY,d,OZ,p,q,rfl,rfl,rfl,h1,h2⟩:=trodAll_cons h
  simp only[List.all_cons,Bool.and_eq_true,decide_eq_true_eq]at ha
  exact⟨p,q,Below.trod hl ha.1.1 ha.1.2 h1 hb (fun x hx=>Zs x (by simp[hx])),Xh hl hb ts OY OZ q ha.2 h2 (fun x hx=>Zs x (by simp[hx])),rfl⟩
theorem Y1 {H:Type} {enc:TypeId × Value→H} {P:Program} {w:World} {b:Nat} {sp:Nat→Bool} {hd:Bool}:∀(ts:List TypeId) (vs:List Value) (ds:List (DataW H)) (ps:List MemPlace),DataW.TrodAll enc P w b sp hd ts vs ds ps→ds.length=ts.length
 | [],vs,ds,ps,h=>by obtain⟨rfl,rfl,rfl⟩:=trodAll_nil h;rfl
 | t :: ts,vs,ds,ps,h=>by
  obtain⟨v,OY,d,OZ,p,q,rfl,rfl,rfl,h1,h2⟩:=trodAll_cons h
  simp[Y1 ts OY OZ q h2]
theorem SQ {W W':World} {h':Hp} (hs:YE W W' h') (hb:Zg W.heap.size W.heap h'):Below W.heap.size W W':=
 ⟨hs.os,hs.tape,hs.output,by rw[hs.heap];exact hb.size,fun k hk=>by rw[hs.heap];exact hb.block k hk⟩
theorem SR {P:Program} {rest:List (List Char)} (h:behindMainWord (wordsSigns P.initOrder.toList) = "cut".toList :: rest):P.make=some .cut:=by
 unfold Program.make
 rw[h]
 simp only
 rw[if_neg (by decide),if_pos (by rfl)]
theorem QL (rest:List (List Char)):stripLifts liftWords ("cut".toList :: rest)=([], "cut".toList :: rest):=by rfl
theorem Tu {P:Program} {rest:List (List Char)} (h:behindMainWord (wordsSigns P.initOrder.toList) = "cut".toList :: rest):P.liftsFinal=false:=by
 unfold Program.liftsFinal Program.headLifts
 rw[h,QL]
 rfl
theorem Tv {P:Program} {rest:List (List Char)} (h:behindMainWord (wordsSigns P.initOrder.toList) = "cut".toList :: rest) (h1:P.laysLater=false) (h2:P.bearsReflect=false) (h3:P.doorFits []=true):P.mayEnter=true:=by
 unfold Program.mayEnter
 rw[h]
 simp only[QL,h1,h2,h3]
 rw[Bool.or_eq_true]
 exact .inr rfl
theorem Tw {P:Program} {L:List Char} (h:P.initOrder=String.ofList L) (h2:((behindMainWord (wordsSigns L)).head? == some "cut".toList)=true):∃rest,behindMainWord (wordsSigns P.initOrder.toList) = "cut".toList :: rest:=by
 rw[h,String.toList_ofList]
 revert h2
 cases behindMainWord (wordsSigns L) with
 | nil=>intro h;cases h
 | cons a l=>
  intro h
  have h':a = "cut".toList:=by
   have:=eq_of_beq h
   simpa using this
  exact⟨l,by rw[h']⟩
end Go.V
