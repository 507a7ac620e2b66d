/- V1: a small calculus of weakest preconditions on heaps (arrays of objects), over the model's own rules: what draws is 'for all', and a function's frame is a function of slots. -/
import Derived.Calls
import Derived.OrdersHeld
import Derived.Still
import Derived.Tactics
import Derived.Laws.Sem
import Derived.KernelRfl
import Derived.IntWalk
import Derived.Laws.Strings
import Derived.WalkKit
import Derived.ProofKit
import Derived.OpenShut
import Derived.SizedLaws
import Derived.JoinedCond
import Derived.Deep.CondSized
import Derived.Carry
namespace Go.V
theorem Zu {α:Type} (x:α):∃y,y=x:=⟨x,rfl⟩
abbrev Env:=Nat→Value
def upd (F:Env) (d:Nat) (v:Value):Env:=fun t=>if t=d then v else F t
def Z2 (F:Env):Option Nat→Value→Env
 | none,_=>F
 | some d,v=>upd F d v
def ev (F:Env):Operand→Value
 | .tmp t=>F t
 | .const v=>v
 | .global g=>.pointer (some ⟨g,0,none⟩)
 | .func f=>.func (.func f) #[] #[]
def KZ:List Value→Nat→Env
 | [],_=>fun _=>undef
 | v :: l,k=>upd (KZ l (k+1)) k v
def env (a:Act):Env:=fun t=>a.tmps.getD t undef
theorem FG (a:Act):a.eval=ev (env a):=by
 funext x;cases x<;>rfl
theorem Mw (a:Act) (dst:Option Nat) (v:Value) (h:∀d,dst=some d→d<a.tmps.size):env (a.put dst v)=Z2 (env a) dst v:=by
 cases dst with
 | none=>rfl
 | some d=>
  funext t
  have hd:=h d rfl
  simp only[env,Act.put,Z2,upd,Array.getD_eq_getD_getElem?,Array.getElem?_setIfInBounds]
  by_cases htd:d=t
  ·subst htd;simp[hd]
  ·rw[if_neg htd,if_neg (fun h=>htd h.symm)]
theorem RV (a:Act) (dst:Option Nat) (v:Value):(a.put dst v).tmps.size=a.tmps.size:=by
 cases dst<;>simp[Act.put]
abbrev Hp:=Array Obj
structure WN (T:World) (w:World) (h:Hp):Prop where
 heap:w.heap=h
 tape:w.tape=T.tape
 os:w.os=T.os
 output:w.output=T.output
def hc (h:Hp) (a:Addr):Option Value:=
 match h[a.block]? with
 | some (.cells c _ _)=>if a.spot.isSome then none else c[a.off]?
 | _=>none
def UP (h:Hp) (r:Nat):Option (TypeId × Nat):=
 match h[r]? with
 | some (.cells c elem _)=>some (elem,c.size)
 | _=>none
def jI (h:Hp) (a:Addr):Bool:=
 match h[a.block]? with
 | some (.cells _ _ (lo,hi))=>lo≤a.off&&a.off<hi
 | _=>false
def dH (h:Hp) (a:Addr) (v:Value):Hp:=
 h.modify a.block fun
  | .cells c elem frozen=>.cells (if a.spot.isSome then c else c.setIfInBounds a.off v) elem frozen
  | o=>o
def VR (h:Hp) (a:Addr) (n:Nat):Hp:=
 if n=0 then h else
 h.modify a.block fun
  | .cells c elem (lo,hi)=>.cells c elem (if lo == hi then (a.off,a.off+n) else (min lo a.off,max hi (a.off+n)))
  | o=>o
def Mx:Obj→Bool
 | .cells .. => true
 | _=>false
def Z5:Value→Bool
 | .agg _|.tuple _=>false
 | _=>true
def hw {α:Type} (P:Program):Sem α→(α→Hp→Prop)→Hp→Prop
 | .pure a,Q,h=>Q a h
 | .load _ a k,Q,h=>∃v,hc h a=some v∧hw P (k v) Q h
 | .store _ a v k,Q,h=>Z5 v=true∧(∃u,hc h a=some u)∧jI h a=false∧hw P k Q (dH h a v)
 | .new o k,Q,h=>hw P (k h.size) Q (h.push o)
 | .shape r k,Q,h=>hw P (k (UP h r)) Q h
 | .freeze a n k,Q,h=>hw P k Q (VR h a n)
 | .frozen a k,Q,h=>hw P (k (jI h a)) Q h
 | .getObj r k,Q,h=>∃o,h[r]? = some o∧Mx o=false∧hw P (k o) Q h
 | .setObj r o k,Q,h=>(∃o',h[r]? = some o'∧Mx o'=false)∧hw P k Q (h.setIfInBounds r o)
 | .choose q k,Q,h=>if q.forced then hw P (k 0) Q h else ∀t,hw P (k (q.cut t)) Q h
 | .sys _ _,_,_=>False
 | .program k,Q,h=>hw P (k P) Q h
 | .mark _ k,Q,h=>hw P k Q h
 | .halt _,_,_=>False
theorem jJ {α:Type} {P:Program} {T:World}:∀(s:Sem α) (Q:α→Hp→Prop) (h:Hp),hw P s Q h→∀w,WN T w h →
  ∃a w' h',s.run P w=.ok a w'∧WN T w' h'∧Q a h':=by
 intro s
 induction s with
 | pure a=>intro Q h H w hs;exact⟨a,w,h,rfl,hs,H⟩
 | load m a k ih=>
  intro Q h H w hs
  obtain⟨v,hv,H⟩:=H
  obtain⟨a',w',h',hr,r⟩:=ih v Q h H w hs
  refine⟨a',w',h',?_,r⟩
  have:w.cell? a=some v:=by rw[World.cell?,hs.heap];exact hv
  rw[Sem.run,this];exact hr
 | store m a v k ih=>
  intro Q h H w hs
  obtain⟨h1,⟨u,h2⟩,h3,H⟩:=H
  have Na:WN T (w.setCell a v) (dH h a v):=⟨by simp only[World.setCell,dH,hs.heap];rfl,hs.tape,hs.os,hs.output⟩
  obtain⟨a',w',h',hr,r⟩:=ih Q _ H _ Na
  refine⟨a',w',h',?_,r⟩
  have e1:w.cell? a=some u:=by rw[World.cell?,hs.heap];exact h2
  have e2:w.frozen? a=false:=by rw[World.frozen?,hs.heap];exact h3
  cases v<;>first|(simp[Z5]at h1;done)|(simp only[Sem.run,e1,e2,Bool.false_eq_true,if_false];exact hr)
 | new o k ih=>
  intro Q h H w hs
  have Na:WN T { w with heap:=w.heap.push o } (h.push o):=⟨by simp only[hs.heap],hs.tape,hs.os,hs.output⟩
  have e:w.heap.size=h.size:=by rw[hs.heap]
  obtain⟨a',w',h',hr,r⟩:=ih h.size Q _ H _ Na
  refine⟨a',w',h',?_,r⟩
  rw[Sem.run,e];exact hr
 | shape r k ih=>
  intro Q h H w hs
  obtain⟨a',w',h',hr,r'⟩:=ih _ Q h H w hs
  refine⟨a',w',h',?_,r'⟩
  have:w.shape? r=UP h r:=by rw[World.shape?,hs.heap];rfl
  rw[Sem.run,this];exact hr
 | freeze a n k ih=>
  intro Q h H w hs
  have Na:WN T (w.freeze a n) (VR h a n):=by
   unfold World.freeze VR
   split
   ·exact hs
   ·exact⟨by simp only[hs.heap];rfl,hs.tape,hs.os,hs.output⟩
  obtain⟨a',w',h',hr,r'⟩:=ih Q _ H _ Na
  exact⟨a',w',h',by rw[Sem.run];exact hr,r'⟩
 | frozen a k ih=>
  intro Q h H w hs
  obtain⟨a',w',h',hr,r'⟩:=ih _ Q h H w hs
  refine⟨a',w',h',?_,r'⟩
  have:w.frozen? a=jI h a:=by rw[World.frozen?,hs.heap];rfl
  rw[Sem.run,this];exact hr
 | getObj r k ih=>
  intro Q h H w hs
  obtain⟨o,ho,hc,H⟩:=H
  obtain⟨a',w',h',hr,r'⟩:=ih o Q h H w hs
  refine⟨a',w',h',?_,r'⟩
  have e:w.heap[r]? = some o:=by rw[hs.heap];exact ho
  simp only[Sem.run,e]
  cases o<;>first|(simp[Mx]at hc;done)|exact hr
 | setObj r o k ih=>
  intro Q h H w hs
  obtain⟨⟨o',ho,hc⟩,H⟩:=H
  have Na:WN T { w with heap:=w.heap.setIfInBounds r o } (h.setIfInBounds r o):=⟨by simp only[hs.heap],hs.tape,hs.os,hs.output⟩
  obtain⟨a',w',h',hr,r'⟩:=ih Q _ H _ Na
  refine⟨a',w',h',?_,r'⟩
  have e:w.heap[r]? = some o':=by rw[hs.heap];exact ho
  simp only[Sem.run,e]
  cases o'<;>first|(simp[Mx]at hc;done)|exact hr
 | choose q k ih=>
  intro Q h H w hs
  simp only[hw]at H
  split at H
  ·rename_i hq
   obtain⟨a',w',h',hr,r'⟩:=ih _ Q h H w hs
   exact⟨a',w',h',by rw[Sem.run,if_pos hq];exact hr,r'⟩
  ·rename_i hq
   have Na:WN T { w with drawn:=w.drawn+1 } h:=⟨hs.heap,hs.tape,hs.os,hs.output⟩
   obtain⟨a',w',h',hr,r'⟩:=ih _ Q h (H (w.tape w.drawn q)) _ Na
   exact⟨a',w',h',by rw[Sem.run,if_neg hq];exact hr,r'⟩
 | sys c k ih=>intro Q h H;exact H.elim
 | program k ih=>
  intro Q h H w hs
  obtain⟨a',w',h',hr,r'⟩:=ih _ Q h H w hs
  exact⟨a',w',h',by rw[Sem.run];exact hr,r'⟩
 | mark m k ih=>
  intro Q h H w hs
  obtain⟨a',w',h',hr,r'⟩:=ih Q h H w hs
  exact⟨a',w',h',by rw[Sem.run];exact hr,r'⟩
 | halt x=>intro Q h H;exact H.elim
theorem Zf {α β:Type} {P:Program} (s:Sem α) (f:α→Sem β) (Q:β→Hp→Prop):∀h,hw P (s >>= f) Q h=hw P s (fun a h'=>hw P (f a) Q h') h:=by
 show ∀h,hw P (s.bind f) Q h=_
 induction s with
 | pure a=>intro h;rfl
 | load m a k ih=>intro h;simp only[Sem.bind,hw,ih]
 | store m a v k ih=>intro h;simp only[Sem.bind,hw,ih]
 | new o k ih=>intro h;simp only[Sem.bind,hw,ih]
 | shape r k ih=>intro h;simp only[Sem.bind,hw,ih]
 | freeze a n k ih=>intro h;simp only[Sem.bind,hw,ih]
 | frozen a k ih=>intro h;simp only[Sem.bind,hw,ih]
 | getObj r k ih=>intro h;simp only[Sem.bind,hw,ih]
 | setObj r o k ih=>intro h;simp only[Sem.bind,hw,ih]
 | choose q k ih=>intro h;simp only[Sem.bind,hw,ih]
 | sys c k ih=>intro h;simp only[Sem.bind,hw]
 | program k ih=>intro h;simp only[Sem.bind,hw,ih]
 | mark m k ih=>intro h;simp only[Sem.bind,hw,ih]
 | halt x=>intro h;rfl
theorem aZ {α:Type} {P:Program} {Q Q':α→Hp→Prop} (hq:∀a h,Q a h→Q' a h):∀(s:Sem α) (h:Hp),hw P s Q h→hw P s Q' h:=by
 intro s
 induction s with
 | pure a=>intro h H;exact hq _ _ H
 | load m a k ih=>intro h H;obtain⟨v,hv,H⟩:=H;exact⟨v,hv,ih _ _ H⟩
 | store m a v k ih=>intro h H;obtain⟨h1,h2,h3,H⟩:=H;exact⟨h1,h2,h3,ih _ H⟩
 | new o k ih=>intro h H;exact ih _ _ H
 | shape r k ih=>intro h H;exact ih _ _ H
 | freeze a n k ih=>intro h H;exact ih _ H
 | frozen a k ih=>intro h H;exact ih _ _ H
 | getObj r k ih=>intro h H;obtain⟨o,h1,h2,H⟩:=H;exact⟨o,h1,h2,ih _ _ H⟩
 | setObj r o k ih=>intro h H;obtain⟨h1,H⟩:=H;exact⟨h1,ih _ H⟩
 | choose q k ih=>
  intro h H
  simp only[hw]at H ⊢
  split at H
  ·rename_i hf;rw[if_pos hf];exact ih _ _ H
  ·rename_i hf;rw[if_neg hf];exact fun t=>ih _ _ (H t)
 | sys c k ih=>intro h H;exact H
 | program k ih=>intro h H;exact ih _ _ H
 | mark m k ih=>intro h H;exact ih _ H
 | halt x=>intro h H;exact H
def Zd (P:Program) (T:World) (f:FuncId) (args:Array Value) (h:Hp) (Q:Value→Hp→Prop):Prop:=
 ∀w,WN T w h→Calls P f args w fun e w'=>∃v h',e=.returned v∧WN T w' h'∧Q v h'
theorem Zd.mono {P:Program} {T:World} {f:FuncId} {args:Array Value} {h:Hp} {Q Q':Value→Hp→Prop} (H:Zd P T f args h Q)
  (hq:∀v h',Q v h'→Q' v h'):Zd P T f args h Q':=
 fun w hs=>(H w hs).mono fun _ _ ⟨v,h',he,Na,q⟩=>⟨v,h',he,Na,hq _ _ q⟩
def Xm (P:Program) (T:World) (K:Value→Hp→Prop):Next→Hp→Prop
 | .value v,h=>K v h
 | .skip,h=>K undef h
 | .enter f args,h=>Zd P T f args h K
 | _,_=>False
def K0 (P:Program) (T:World) (o:Oper) (K:Value→Hp→Prop) (F:Env) (h:Hp):Prop:=
 hw P (execOp (ev F) o) (Xm P T K) h
theorem MS {P:Program} {T:World} {K K':Value→Hp→Prop} (hk:∀v h,K v h→K' v h):∀(x:Next) (h:Hp),Xm P T K x h→Xm P T K' x h:=by
 intro x h H
 cases x<;>simp only[Xm]at H ⊢<;>first|exact hk _ _ H|exact H.mono hk
theorem RW {P:Program} {T:World} {o:Oper} {K K':Value→Hp→Prop} {F:Env} {h:Hp} (hk:∀v h,K v h→K' v h) (H:K0 P T o K F h):K0 P T o K' F h:=
 aZ (MS hk) _ _ H
theorem IS {P:Program} {T:World} {o:Oper} {K:Value→Hp→Prop} {F:Env} {h:Hp} (H:K0 P T o K F h) {a:Act} {w:World} (hF:env a=F) (hs:WN T w h)
  {next:Act→World→Prop} {Q:Exit→Act→World→Prop} (hk:∀v w' h',WN T w' h'→K v h'→next (a.put o.dst v) w'):o.wp P a w next Q:=by
 obtain⟨x,w',h',hr,Na,hx⟩:=jJ _ _ _ H w hs
 unfold Oper.wp
 rw[FG,hF,hr]
 cases x<;>simp only[Xm]at hx
 case value v=>exact hk _ _ _ Na hx
 case skip=>exact hk _ _ _ Na hx
 case enter f args=>
  simp only[Oper.upon]
  exact (hx w' Na).mono fun e w'' ⟨v,On,he,ZjO,q⟩=>by subst he;exact hk _ _ _ ZjO q
def Q2 (ops:Array Oper) (F:Env) (j:Nat):Option Bool:=
 match (ops[j]?).bind (·.dst) with
 | some t=>match F t with
  | .bool b=>some b
  | _=>none
 | none=>none
def Z6 (ops:Array Oper) (o:Oper) (F:Env):Bool:=Region.wanted o (Q2 ops F)
def jK (n:Nat) (o:Oper):Bool:=match o.dst with|some d=>Nat.blt d n|none=>true
def Nb (n:Nat) (ops:Array Oper):Bool:=ops.toList.all (jK n)
theorem Rh {n:Nat} {o:Oper} (h:jK n o=true):∀d,o.dst=some d→d<n:=by
 intro d hd
 unfold jK at h
 rw[hd]at h
 exact Nat.blt_eq.mp h
theorem Nc {n:Nat} {ops:Array Oper} (Jk:Nb n ops=true) (a:Act) (hn:a.tmps.size=n):yielded ops a.tmps=Q2 ops (env a):=by
 funext j
 unfold yielded Q2
 cases hj:ops[j]? with
 | none=>rfl
 | some o=>
  simp only[Option.bind_some]
  cases hd:o.dst with
  | none=>rfl
  | some d=>
   have ZA:d<a.tmps.size:=by
    rw[hn]
    have hm:o∈ops.toList:=by
     have:=Array.mem_of_getElem? hj
     simpa using this
    exact Rh (List.all_eq_true.1 Jk o hm) d hd
   simp only[Option.bind_some]
   rw[Array.getElem?_eq_getElem ZA]
   have:env a d=a.tmps[d]:=by simp[env,ZA]
   rw[this]
   cases a.tmps[d]<;>rfl
def dI (P:Program) (T:World) (ops:Array Oper) (N:Env→Hp→Prop):List Oper→Env→Hp→Prop
 | [],F,h=>N F h
 | o :: l,F,h=>
  if Z6 ops o F then K0 P T o (fun v h'=>dI P T ops N l (Z2 F o.dst v) h') F h
  else dI P T ops N l (Z2 F o.dst undef) h
def qN (n:Nat) (T:World) (N:Env→Hp→Prop) (X:Nat→Env→Hp→Prop) (R:Env→Hp→Prop) (e:Exit) (a:Act) (w:World):Prop:=
 a.tmps.size=n∧a.defers=[]∧∃h,WN T w h∧match e with
  | .normal=>N (env a) h
  | .exit j=>X j (env a) h
  | .ret=>R (env a) h
  | _=>False
def VS (P:Program) (n:Nat) (T:World) (c:Code) (N:Env→Hp→Prop) (X:Nat→Env→Hp→Prop) (R:Env→Hp→Prop) (F:Env) (h:Hp):Prop:=
 ∀a w,a.tmps.size=n→a.defers=[]→env a=F→WN T w h→c.wp P (qN n T N X R) a w
section
variable {P:Program} {n:Nat} {T:World} {N:Env→Hp→Prop} {X:Nat→Env→Hp→Prop} {R:Env→Hp→Prop} {F:Env} {h:Hp}
theorem VS.mono {c:Code} {N':Env→Hp→Prop} {X':Nat→Env→Hp→Prop} {R':Env→Hp→Prop} (H:VS P n T c N X R F h)
  (hN:∀F h,N F h→N' F h) (hX:∀j F h,X j F h→X' j F h) (hR:∀F h,R F h→R' F h):VS P n T c N' X' R' F h:=by
 intro a w h1 h2 h3 h4
 refine Code.wp_mono (fun e a w ⟨q1,q2,h,q3,q4⟩=>⟨q1,q2,h,q3,?_⟩) (H a w h1 h2 h3 h4)
 cases e<;>simp only at q4 ⊢<;>first|exact hN _ _ q4|exact hX _ _ _ q4|exact hR _ _ q4
theorem VS.seq {c d:Code} (H:VS P n T c (fun F h=>VS P n T d N X R F h) X R F h):VS P n T (.seq c d) N X R F h:=by
 intro a w h1 h2 h3 h4
 refine wp_seq (Code.wp_mono (fun e a w ⟨q1,q2,h,q3,q4⟩=>?_) (H a w h1 h2 h3 h4))
 cases e with
 | normal=>exact q4 a w q1 q2 rfl q3
 | exit j=>exact⟨q1,q2,h,q3,q4⟩
 | ret=>exact⟨q1,q2,h,q3,q4⟩
 | _=>exact q4.elim
theorem VS.skip (H:N F h):VS P n T .skip N X R F h:=by
 intro a w h1 h2 h3 h4
 exact wp_skip ⟨h1,h2,h,h4,by rw[h3];exact H⟩
theorem VS.ret (H:R F h):VS P n T .ret N X R F h:=by
 intro a w h1 h2 h3 h4
 exact wp_ret ⟨h1,h2,h,h4,by rw[h3];exact H⟩
theorem VS.exit {j:Nat} (H:X j F h):VS P n T (.exit j) N X R F h:=by
 intro a w h1 h2 h3 h4
 exact wp_exit ⟨h1,h2,h,h4,by rw[h3];exact H⟩
theorem VS.block {j:Nat} {c:Code} (H:VS P n T c N (fun i F h=>if i=j then N F h else X i F h) R F h):VS P n T (.block j c) N X R F h:=by
 intro a w h1 h2 h3 h4
 refine wp_block (Code.wp_mono (fun e a w ⟨q1,q2,h,q3,q4⟩=>?_) (H a w h1 h2 h3 h4))
 cases e with
 | normal=>exact⟨q1,q2,h,q3,q4⟩
 | exit i=>
  simp only[Exit.inBlock]
  simp only at q4
  split
  ·rename_i ji;rw[if_pos ji]at q4;exact⟨q1,q2,h,q3,q4⟩
  ·rename_i ji;rw[if_neg ji]at q4;exact⟨q1,q2,h,q3,q4⟩
 | ret=>exact⟨q1,q2,h,q3,q4⟩
 | _=>exact q4.elim
theorem VS.cond {c:Operand} {x y:Code} {b:Bool} (hc:ev F c=.bool b) (ht:b=true→VS P n T x N X R F h) (hf:b=false→VS P n T y N X R F h) :
  VS P n T (.cond c x y) N X R F h:=by
 intro a w h1 h2 h3 h4
 refine wp_cond_split (t:=b) (by rw[FG,h3];exact hc) (fun hb=>ht hb a w h1 h2 h3 h4) (fun hb=>hf hb a w h1 h2 h3 h4)
theorem VS.loop {c:Code} (I:Env→Hp→Prop) (μ:Env→Hp→Nat) (h0:I F h)
  (round:∀F h,I F h→VS P n T c (fun F' h'=>I F' h'∧μ F' h'<μ F h) X R F h):VS P n T (.loop c) N X R F h:=by
 intro a w h1 h2 h3 h4
 refine wp_loop (fun a w=>a.tmps.size=n∧a.defers=[]∧WN T w w.heap∧I (env a) w.heap) (fun a w=>μ (env a) w.heap)
  ⟨h1,h2,by rw[h4.heap];exact h4,by rw[h3,h4.heap];exact h0⟩ ?_
 intro a w ⟨q1,q2,q3,q4⟩
 refine Code.wp_mono (fun e a' w' ⟨p1,p2,h',p3,p4⟩=>?_) (round (env a) w.heap q4 a w q1 q2 rfl q3)
 cases e with
 | normal=>
  have e:=p3.heap
  subst e
  exact⟨⟨p1,p2,p3,p4.1⟩,p4.2⟩
 | exit j=>exact⟨p1,p2,h',p3,p4⟩
 | ret=>exact⟨p1,p2,h',p3,p4⟩
 | _=>exact p4.elim
theorem UQ {ops:Array Oper} (Jk:Nb n ops=true):∀(l:List Oper) (F:Env) (h:Hp),(∀o∈l,o∈ops.toList)→dI P T ops N l F h →
  ∀a w,a.tmps.size=n→a.defers=[]→env a=F→WN T w h→wpList P ops (qN n T N X R) l a w
 | [],F,h,_,H,a,w,h1,h2,h3,h4=>⟨h1,h2,h,h4,by rw[h3];exact H⟩
 | o :: l,F,h,hm,H,a,w,h1,h2,h3,h4=>by
  have hd:∀d,o.dst=some d→d<a.tmps.size:=by
   rw[h1];exact Rh (List.all_eq_true.1 Jk o (hm o (by simp)))
  have My:∀o∈l,o∈ops.toList:=fun x hx=>hm x (by simp[hx])
  have MT:Region.wanted o (yielded ops a.tmps)=Z6 ops o F:=by rw[Nc Jk a h1,h3];rfl
  unfold wpList
  rw[MT]
  unfold dI at H
  split at H
  ·rename_i hw
   rw[if_pos hw]
   refine .inl (IS H h3 h4 fun v w' h' Na hk=>?_)
   exact UQ Jk l _ h' My hk _ _ (by rw[RV,h1]) (by cases o.dst<;>exact h2) (by rw[Mw a _ _ hd,h3]) Na
  ·rename_i hw
   rw[if_neg hw]
   exact UQ Jk l _ h My H _ _ (by rw[RV,h1]) (by cases o.dst<;>exact h2) (by rw[Mw a _ _ hd,h3]) h4
theorem VS.region {id:Nat} {ops:Array Oper} (Jk:Nb n ops=true) (H:dI P T ops N ops.toList F h):VS P n T (.region id ops false) N X R F h:=by
 intro a w h1 h2 h3 h4
 exact wp_region_list (UQ Jk ops.toList F h (fun _ h=>h) H a w h1 h2 h3 h4)
def JR (P:Program) (T:World) (ops:Array Oper) (i:Nat) (K:Env→Hp→Prop) (F:Env) (h:Hp):Prop:=
 match ops[i]? with
 | none=>K F h
 | some o=>if Z6 ops o F then K0 P T o (fun v h'=>K (Z2 F o.dst v) h') F h else K (Z2 F o.dst undef) h
theorem XL {ops:Array Oper} {i:Nat} {K K':Env→Hp→Prop} (hk:∀F h,K F h→K' F h) {F:Env} {h:Hp} (H:JR P T ops i K F h):JR P T ops i K' F h:=by
 unfold JR at *
 split at H
 ·exact hk _ _ H
 ·split at H
  ·rename_i hw;rw[if_pos hw];exact RW (fun _ _ q=>hk _ _ q) H
  ·rename_i hw;rw[if_neg hw];exact hk _ _ H
def CP (P:Program) (T:World) (ops:Array Oper) (S:Hp→Prop) (N:Env→Hp→Prop):Nat→Array Bool→Env→Hp→Prop
 | 0,listed,F,h=>Region.ready .any ops listed=[]∧N F h
 | k+1,listed,F,h=>(Region.ready .any ops listed=[]→N F h) ∧
   ∀i∈Region.ready .any ops listed,JR P T ops i (fun F' h'=>S h'∧CP P T ops S N k (listed.setIfInBounds i true) F' h') F h
theorem Jc {ops:Array Oper} {S:Hp→Prop} (Jk:Nb n ops=true):∀(k:Nat) (listed:Array Bool) (F:Env) (h:Hp),CP P T ops S N k listed F h →
  ∀a w,a.tmps.size=n→a.defers=[]→env a=F→WN T w h→wpAny P .any ops (qN n T N X R) k listed a w
 | 0,listed,F,h,H,a,w,h1,h2,h3,h4=>⟨H.1,h1,h2,h,h4,by rw[h3];exact H.2⟩
 | k+1,listed,F,h,H,a,w,h1,h2,h3,h4=>by
  refine⟨fun h0=>⟨h1,h2,h,h4,by rw[h3];exact H.1 h0⟩,fun i hi=>?_⟩
  have Hi:=H.2 i hi
  unfold JR at Hi
  unfold wpOp
  cases ho:ops[i]? with
  | none=>rw[ho]at Hi;exact Jc Jk k _ F h Hi.2 a w h1 h2 h3 h4
  | some o=>
   rw[ho]at Hi
   simp only at Hi ⊢
   have hd:∀d,o.dst=some d→d<a.tmps.size:=by
    rw[h1];exact Rh (List.all_eq_true.1 Jk o (by have:=Array.mem_of_getElem? ho;simpa using this))
   have MT:Region.wanted o (yielded ops a.tmps)=Z6 ops o F:=by rw[Nc Jk a h1,h3];rfl
   rw[MT]
   split at Hi
   ·rename_i hw
    rw[if_pos hw]
    refine .inl (IS Hi h3 h4 fun v w' h' Na hk=>?_)
    exact Jc Jk k _ _ h' hk.2 _ _ (by rw[RV,h1]) (by cases o.dst<;>exact h2) (by rw[Mw a _ _ hd,h3]) Na
   ·rename_i hw
    rw[if_neg hw]
    exact Jc Jk k _ _ h Hi.2 _ _ (by rw[RV,h1]) (by cases o.dst<;>exact h2) (by rw[Mw a _ _ hd,h3]) h4
def Qp (P:Program) (T:World) (ops:Array Oper) (S:Hp→Prop) (o:Oper) (v:Value) (F:Env):Prop:=
 (Z6 ops o F=true∧∀h,S h→K0 P T o (fun v' h'=>v'=v∧h'=h) F h)∨(Z6 ops o F=false∧v=undef)
theorem qO {F:Env} {dst:Option Nat} {v:Value} {x:Operand} (hx:∀d,dst=some d→x ≠ .tmp d):ev (Z2 F dst v) x=ev F x:=by
 cases dst with
 | none=>rfl
 | some d=>
  cases x with
  | tmp t=>
   have Yr:t≠d:=fun e=>hx d rfl (by rw[e])
   show (if t=d then v else F t)=F t
   rw[if_neg Yr]
  | _=>rfl
theorem Nf {ops:Array Oper} (o:Oper) (hs:∀cs b,o.op ≠ .select cs b) (F:Env) (dst:Option Nat) (v:Value) (h:∀d,dst=some d→d ∉ o.looksAt ops) :
  execOp (ev (Z2 F dst v)) o=execOp (ev F) o:=
 execOp_congr o hs fun x hx=>qO fun d hd hxd=>h d hd (by
  subst hxd
  exact List.mem_append_left _ (List.mem_filterMap.2 ⟨.tmp d,by simpa using hx,rfl⟩))
theorem RX {ops:Array Oper} (o:Oper) (F:Env) (dst:Option Nat) (v:Value) (h:∀d,dst=some d→d ∉ o.looksAt ops) :
  Z6 ops o (Z2 F dst v)=Z6 ops o F:=by
 cases dst with
 | none=>rfl
 | some d=>
  unfold Z6 Region.wanted
  cases hg:o.guard with
  | none=>rfl
  | some gw=>
   obtain⟨g,want⟩:=gw
   simp only
   have hd:=h d rfl
   unfold Oper.looksAt at hd
   rw[hg]at hd
   simp only[List.mem_append,not_or]at hd
   have:Q2 ops (Z2 F (some d) v) g=Q2 ops F g:=by
    unfold Q2
    cases hb:(ops[g]?).bind (·.dst) with
    | none=>rfl
    | some t=>
     have Yr:t≠d:=fun e=>hd.2 (by rw[hb,e];simp)
     show (match (if t=d then v else F t) with|.bool b=>some b|_=>none)=_
     rw[if_neg Yr]
   rw[this]
theorem IT (F:Env) {d d':Option Nat} (v v':Value) (h:∀x,d=some x→d'≠some x):Z2 (Z2 F d v) d' v'=Z2 (Z2 F d' v') d v:=by
 cases d with
 | none=>rfl
 | some x=>
  cases d' with
  | none=>rfl
  | some y=>
   have Yr:y≠x:=fun e=>h x rfl (by rw[e])
   funext t
   simp only[Z2,upd]
   by_cases h1:t=y
   ·subst h1;rw[if_pos rfl,if_neg Yr,if_pos rfl]
   ·rw[if_neg h1]
    by_cases h2:t=x
    ·rw[if_pos h2,if_pos h2]
    ·rw[if_neg h2,if_neg h2,if_neg h1]
theorem Qp.put {ops:Array Oper} {S:Hp→Prop} {o:Oper} (hs:∀cs b,o.op ≠ .select cs b) {v:Value} {F:Env} (hy:Qp P T ops S o v F) {dst:Option Nat} {u:Value}
  (h:∀d,dst=some d→d ∉ o.looksAt ops):Qp P T ops S o v (Z2 F dst u):=by
 unfold Qp K0 at *
 rw[RX o F dst u h,Nf o hs F dst u h]
 exact hy
theorem Qp.opI {ops:Array Oper} {S:Hp→Prop} {i:Nat} {o:Oper} {v:Value} {F:Env} {h:Hp} (hi:ops[i]? = some o) (hy:Qp P T ops S o v F) (hS:S h)
  {K:Env→Hp→Prop} (H:K (Z2 F o.dst v) h):JR P T ops i K F h:=by
 unfold JR
 rw[hi]
 rcases hy with⟨hw,hv⟩|⟨hw,rfl⟩
 ·simp only[hw,if_true]
  exact RW (fun v' h' ⟨e1,e2⟩=>by subst e1;subst e2;exact H) (hv h hS)
 ·simp only[hw,Bool.false_eq_true,if_false];exact H
theorem MU {ops:Array Oper} {S:Hp→Prop} {j:Nat} {oi oj:Oper} {v:Value} (hj:ops[j]? = some oj) (hap:oi.apart ops oj=true)
  (hsi:∀cs b,oi.op ≠ .select cs b) (hsj:∀cs b,oj.op ≠ .select cs b) {K:Env→Hp→Prop} {F:Env} {h:Hp} (hy:Qp P T ops S oi v F)
  (H:JR P T ops j K (Z2 F oi.dst v) h):JR P T ops j (fun F' h'=>Qp P T ops S oi v F'∧K (Z2 F' oi.dst v) h') F h:=by
 obtain⟨h1,h2,h3⟩:=Oper.apart_spec hap
 unfold JR at *
 rw[hj]at *
 simp only at *
 rw[RX oj F oi.dst v h1]at H
 split at H
 ·rename_i hw
  rw[if_pos hw]
  unfold K0 at *
  rw[Nf oj hsj F oi.dst v h1]at H
  refine aZ (MS fun u h' q=>?_) _ _ H
  exact⟨hy.put hsi h3,by rw[←IT F v u h2];exact q⟩
 ·rename_i hw
  rw[if_neg hw]
  exact⟨hy.put hsi h3,by rw[←IT F v undef h2];exact H⟩
theorem MV {ops:Array Oper} {S:Hp→Prop} {i:Nat} {oi:Oper} {v:Value} (hi:ops[i]? = some oi) (FH:∀(j:Nat) (o:Oper) cs b,ops[j]? = some o→o.op ≠ .select cs b) :
  ∀(k:Nat) (listed:Array Bool) (F:Env) (h:Hp),
   (∀j oj,ops[j]? = some oj→j≠i→listed.getD j true=false→(∀e∈oj.after,Region.binds .any e=true→e.on≠i)→oi.apart ops oj=true) →
   i∈Region.ready .any ops listed→Qp P T ops S oi v F→S h →
   CP P T ops S N k (listed.setIfInBounds i true) (Z2 F oi.dst v) h→CP P T ops S N (k+1) listed F h:=by
 intro k
 induction k with
 | zero=>
  intro listed F h _ hr hy hS H
  refine⟨fun h=>(by rw[h]at hr;cases hr),fun j hj=>?_⟩
  by_cases Wn:j=i
  ·subst Wn;exact hy.opI hi hS ⟨hS,H⟩
  ·have:=ready_mono hj Wn
   rw[H.1]at this
   cases this
 | succ k ih=>
  intro listed F h Ng hr hy hS H
  refine⟨fun h=>(by rw[h]at hr;cases hr),fun j hj=>?_⟩
  by_cases Wn:j=i
  ·subst Wn;exact hy.opI hi hS ⟨hS,H⟩
  ·have h1:=H.2 j (ready_mono hj Wn)
   obtain⟨FI,oj,dJ,YH⟩:=mem_ready.1 hj
   have HX:∀e∈oj.after,Region.binds .any e=true→e.on≠i:=fun e he hb heq=>by
    have h1:=YH e he hb
    have h0:=(mem_ready.1 hr).1
    rw[heq]at h1
    rcases Nat.lt_or_ge i listed.size with h'|h'
    ·simp[h']at h0 h1;rw[h0]at h1;cases h1
    ·simp[Array.getElem?_eq_none h']at h1
   have h2:=MU dJ (Ng j oj dJ Wn FI HX) (fun cs b=>FH i oi cs b hi) (fun cs b=>FH j oj cs b dJ) hy h1
   have MW:∀k ok,ops[k]? = some ok→k≠i→(listed.setIfInBounds j true).getD k true=false →
     (∀e∈ok.after,Region.binds .any e=true→e.on≠i)→oi.apart ops ok=true:=fun k ok hk hki wm hno=>by
    refine Ng k ok hk hki ?_ hno
    by_cases bj:j=k
    ·subst bj;exact FI
    ·rw[getD_set_ne true bj]at wm;exact wm
   refine XL (fun F' h' h3=>⟨h3.2.1,ih (listed.setIfInBounds j true) F' h' MW (ready_mono hr (Ne.symm Wn)) h3.1 h3.2.1 ?_⟩) h2
   rw[Array.setIfInBounds_comm _ _ Wn]
   exact h3.2.2
def RY (P:Program) (T:World) (ops:Array Oper) (S:Hp→Prop) (N:Env→Hp→Prop):List (Nat × Bool × Oper)→Env→Hp→Prop
 | [],F,h=>N F h
 | (_,q,o) :: l,F,h=>
  if Z6 ops o F then
   if q then ∃v,(∀h',S h'→K0 P T o (fun v' On=>v'=v∧On=h') F h')∧RY P T ops S N l (Z2 F o.dst v) h
   else K0 P T o (fun v h'=>S h'∧RY P T ops S N l (Z2 F o.dst v) h') F h
  else RY P T ops S N l (Z2 F o.dst undef) h
def Uh (ops:Array Oper) (l:List (Nat × Bool)):List (Nat × Bool × Oper):=l.map fun (i,q)=>(i,q,ops.getD i default)
def MX (ops:Array Oper):List (Nat × Bool)→Array Bool→Bool
 | [],listed=>(Region.ready .any ops listed).isEmpty
 | (i,q) :: l,listed=>
  (if q then (Region.ready .any ops listed).contains i&&Region.free .any ops listed i else (Region.ready .any ops listed == [i]))&&MX ops l (listed.setIfInBounds i true)
theorem JS {ops:Array Oper} {S:Hp→Prop} (hs:Region.noSelect ops=true):∀(l:List (Nat × Bool)) (listed:Array Bool) (F:Env) (h:Hp),MX ops l listed=true→S h →
  RY P T ops S N (Uh ops l) F h→CP P T ops S N l.length listed F h
 | [],listed,F,h,hB,_,H=>⟨by simpa [MX] using hB,H⟩
 | (i,q) :: l,listed,F,h,hB,hS,H=>by
  simp only[MX,Bool.and_eq_true]at hB
  obtain⟨Q3,TG⟩:=hB
  have Ri:i∈Region.ready .any ops listed:=by
   cases q
   ·simp only[Bool.false_eq_true,if_false,beq_iff_eq]at Q3;rw[Q3];simp
   ·simp only[if_true,Bool.and_eq_true]at Q3;simpa using Q3.1
  obtain⟨_,o,ho,_⟩:=mem_ready.1 Ri
  have hp:Uh ops ((i,q) :: l)=(i,q,o) :: Uh ops l:=by simp[Uh,ho]
  rw[hp]at H
  simp only[RY]at H
  cases q with
  | true=>
   simp only[if_true,Bool.and_eq_true]at Q3 H
   split at H
   ·rename_i hw
    obtain⟨v,hv,H⟩:=H
    exact MV ho (Region.noSelect_spec hs) l.length listed F h (Region.free_spec ho Q3.2) Ri (.inl ⟨hw,hv⟩) hS (JS hs l _ _ _ TG hS H)
   ·rename_i hw
    exact MV ho (Region.noSelect_spec hs) l.length listed F h (Region.free_spec ho Q3.2) Ri (.inr ⟨by simpa using hw,rfl⟩) hS (JS hs l _ _ _ TG hS H)
  | false=>
   simp only[Bool.false_eq_true,if_false,beq_iff_eq]at Q3 H
   refine⟨fun h0=>(by rw[h0]at Ri;cases Ri),fun j hj=>?_⟩
   rw[Q3]at hj
   have hj:j=i:=by simpa using hj
   subst hj
   unfold JR
   rw[ho]
   simp only
   split at H
   ·rename_i hw
    rw[if_pos hw]
    exact RW (fun v h' q=>⟨q.1,JS hs l _ _ _ TG q.1 q.2⟩) H
   ·rename_i hw
    rw[if_neg hw]
    exact⟨hS,JS hs l _ _ _ TG hS H⟩
def Vk (n:Nat) (ops:Array Oper) (l:List (Nat × Bool)):Bool:=
 Nb n ops&&(Region.noSelect ops&&(MX ops l (Array.replicate ops.size false)&&Nat.beq l.length ops.size))
theorem VS.held {id:Nat} {ops:Array Oper} (S:Hp→Prop) (l:List (Nat × Bool)) (hm:P.follows .mixedOrders=true) (Jk:Vk n ops l=true) (hS:S h)
  (H:RY P T ops S N (Uh ops l) F h):VS P n T (.region id ops true) N X R F h:=by
 intro a w h1 h2 h3 h4
 simp only[Vk,Bool.and_eq_true]at Jk
 obtain⟨k1,k2,k3,k4⟩:=Jk
 refine wp_region_any hm ?_
 have hl:l.length=ops.size:=Nat.eq_of_beq_eq_true k4
 rw[←hl]
 refine Jc k1 _ _ F h (JS k2 l _ F h (by rw[hl];exact k3) hS H) a _ h1 h2 h3 ⟨h4.heap,h4.tape,h4.os,h4.output⟩
theorem VS.quiet {id:Nat} {ops:Array Oper} (hm:P.follows .mixedOrders=true) (Jk:Vk n ops ((List.range ops.size).map fun i=>(i,true))=true)
  (H:RY P T ops (fun h'=>h'=h) N (Uh ops ((List.range ops.size).map fun i=>(i,true))) F h):VS P n T (.region id ops true) N X R F h:=
 VS.held (fun h'=>h'=h) _ hm Jk rfl H
def hr {α:Type} (P:Program):Sem α→Hp→Option α
 | .pure a,_=>some a
 | .load _ a k,h=>(hc h a).bind fun v=>hr P (k v) h
 | .shape r k,h=>hr P (k (UP h r)) h
 | .frozen a k,h=>hr P (k (jI h a)) h
 | .program k,h=>hr P (k P) h
 | _,_=>none
theorem jL {α:Type} {P:Program} {T:World}:∀(s:Sem α) (h:Hp) (a:α),hr P s h=some a→∀w,WN T w h→s.run P w=.ok a w:=by
 intro s
 induction s with
 | pure a=>intro h b H w hs;simp only[hr,Option.some.injEq]at H;rw[H];rfl
 | load m a k ih=>
  intro h b H w hs
  simp only[hr]at H
  cases hv:hc h a with
  | none=>rw[hv]at H;cases H
  | some v=>
   rw[hv]at H
   have:w.cell? a=some v:=by rw[World.cell?,hs.heap];exact hv
   rw[Sem.run,this];exact ih v h b H w hs
 | shape r k ih=>
  intro h b H w hs
  have:w.shape? r=UP h r:=by rw[World.shape?,hs.heap];rfl
  rw[Sem.run,this];exact ih _ h b H w hs
 | frozen a k ih=>
  intro h b H w hs
  have:w.frozen? a=jI h a:=by rw[World.frozen?,hs.heap];rfl
  rw[Sem.run,this];exact ih _ h b H w hs
 | program k ih=>intro h b H w hs;rw[Sem.run];exact ih _ h b H w hs
 | _=>intro h b H;cases H
theorem Jl {α β:Type} {P:Program} (s:Sem α) (f:α→Sem β):∀h,hr P (s >>= f) h=(hr P s h).bind fun a=>hr P (f a) h:=by
 show ∀h,hr P (s.bind f) h=_
 induction s with
 | load m a k ih=>intro h;simp only[Sem.bind,hr,ih];cases hc h a<;>rfl
 | shape r k ih=>intro h;simp only[Sem.bind,hr,ih]
 | frozen a k ih=>intro h;simp only[Sem.bind,hr,ih]
 | program k ih=>intro h;simp only[Sem.bind,hr,ih]
 | _=>intro h;rfl
def RZ (P:Program) (t:TypeId) (v:Value) (h:Hp):Option Value:=
 match v with
 | .pointer (some a)=>hr P (loadVar t a) h
 | _=>none
def Jm (P:Program) (F:Env) (h:Hp):List ResultVar→Option (List Value)
 | []=>some []
 | .tmp t :: l=>(Jm P F h l).map (F t :: ·)
 | .cell a t :: l=>(RZ P t (F a) h).bind fun v=>(Jm P F h l).map (v :: ·)
def Rj:List Value→Value
 | [v]=>v
 | l=>.tuple l.toArray
def MY (P:Program) (l:List ResultVar) (F:Env) (Q:Value→Hp→Prop) (h:Hp):Prop:=
 match Jm P F h l with
 | some vs=>Q (Rj vs) h
 | none=>False
def qP (F:Env):ResultVar→Sem Value
 | .tmp t=>pure (F t)
 | .cell a t=>do loadVar t (←asAddr (F a))
theorem dK {F:Env} {h:Hp}:∀(l:List ResultVar) (vs:List Value),Jm P F h l=some vs→hr P (l.mapM (qP F)) h=some vs:=by
 intro l
 induction l with
 | nil=>intro vs H;simp only[Jm,Option.some.injEq]at H;subst H;rfl
 | cons x l ih=>
  intro vs H
  rw[List.mapM_cons,Jl]
  cases x with
  | tmp t=>
   simp only[Jm]at H
   cases hl:Jm P F h l with
   | none=>rw[hl]at H;cases H
   | some us=>
    rw[hl]at H
    simp only[Option.map_some,Option.some.injEq]at H
    subst H
    show (some (F t)).bind _=_
    rw[Option.bind_some,Jl,ih us hl];rfl
  | cell a t=>
   simp only[Jm]at H
   cases hv:RZ P t (F a) h with
   | none=>rw[hv]at H;cases H
   | some v=>
    rw[hv]at H
    cases hl:Jm P F h l with
    | none=>rw[hl]at H;cases H
    | some us=>
     rw[hl]at H
     simp only[Option.bind_some,Option.map_some,Option.some.injEq]at H
     subst H
     have e:hr P (qP F (.cell a t)) h=some v:=by
      show hr P (asAddr (F a) >>= fun b=>loadVar t b) h=some v
      unfold RZ at hv
      split at hv
      ·rename_i b hb
       rw[hb,Jl];exact hv
      ·cases hv
     rw[e,Option.bind_some,Jl,ih us hl];rfl
theorem FJ {fn:Func} {l:List ResultVar} (hl:fn.results=l.toArray) {a:Act} {h:Hp} {vs:List Value} (H:Jm P (env a) h l=some vs) {w:World} (hs:WN T w h) :
  (results fn a.tmps).run P w=.ok (Rj vs) w:=by
 have e:results fn a.tmps=(do let us ←fn.results.mapM (qP (env a));pure (if h:us.size=1 then us[0] else .tuple us)):=by
  have e1:(fun x:ResultVar=>match x with|.tmp t=>(pure (a.tmps.getD t undef):Sem Value)|.cell x t=>do loadVar t (←asAddr (a.tmps.getD x undef)))=qP (env a):=by
   funext x
   cases x<;>rfl
  rw[←e1]
  rfl
 rw[e,hl]
 refine jL (T:=T) _ h _ ?_ w hs
 rw[Jl,List.mapM_toArray,map_eq_pure_bind,Jl,dK l vs H]
 show some _=_
 congr 1
 match vs with
 | []=>rfl
 | [v]=>rfl
 | v :: u :: l=>simp[Rj]
end
theorem dL (args:Array Value) (k:Nat):env { tmps:=args++Array.replicate k undef,defers:=[] } = KZ args.toList 0:=by
 have key:∀(l:List Value) (j t:Nat),KZ l j t=if j≤t then (l[t-j]?).getD undef else undef:=by
  intro l
  induction l with
  | nil=>intro j t;simp[KZ]
  | cons v l ih=>
   intro j t
   simp only[KZ,upd]
   by_cases h:t=j
   ·subst h;simp
   ·rw[if_neg h,ih]
    by_cases h':j≤t
    ·have e:t-j=(t-(j+1))+1:=by omega
     rw[if_pos (by omega),if_pos h',e];simp
    ·rw[if_neg (by omega),if_neg h']
 funext t
 rw[key]
 simp only[env,Nat.zero_le,if_true,Nat.sub_zero,Array.getD_eq_getD_getElem?,Array.getElem?_append,Array.getElem?_toList]
 by_cases h:t<args.size
 ·rw[if_pos h]
 ·rw[if_neg h,Array.getElem?_eq_none (by omega:args.size≤t)]
  by_cases h2:t-args.size<k
  ·simp[h2]
  ·simp[h2]
theorem Zd.Mz {P:Program} {T:World} {f:FuncId} {fn:Func} {c:Code} {l:List ResultVar} {args:Array Value} {h:Hp} {Q:Value→Hp→Prop} (hf:P.funcs[f]? = some fn) (hb:fn.body=some c)
  (hl:fn.results=l.toArray) (hn:Nat.ble args.size fn.ntmps=true)
  (H:VS P fn.ntmps T c (fun F h'=>MY P l F Q h') (fun _ _ _=>False) (fun F h'=>MY P l F Q h') (KZ args.toList 0) h) :
  Zd P T f args h Q:=by
 intro w hs
 refine calls_of_wp hf hb (Code.wp_mono (fun e a w hp=>?_) (H _ w ?_ rfl (dL _ _) hs))
 ·obtain⟨q1,q2,h',q3,q4⟩:=hp
  have key:MY P l (env a) Q h'→∃v,(results fn a.tmps).run P w=.ok v w∧∃v' On,Ending.returned v=.returned v'∧WN T w On∧Q v' On:=by
   intro hr
   unfold MY at hr
   split at hr
   ·rename_i vs qQ
    exact⟨_,FJ hl qQ q3,_,h',rfl,q3,hr⟩
   ·exact hr.elim
  cases e with
  | normal=>exact⟨q2,key q4⟩
  | ret=>exact⟨q2,key q4⟩
  | _=>exact q4.elim
 ·have:=Nat.le_of_ble_eq_true hn
  simp only[Array.size_append,Array.size_replicate];omega
set_option linter.unusedSimpArgs false
set_option linter.unusedVariables false
def tz (P:Program) (t:TypeId):Option (List Value):=((P.info? t).bind (·.zero)).map fun v=>v.cells.toList
def tn (P:Program) (t:TypeId):Option Nat:=(P.info? t).map (·.size)
def tb (P:Program) (t:TypeId):Option Nat:=(P.info? t).map (·.bytes)
def ta (P:Program) (t:TypeId):Option Bool:=(P.underlying t).map fun|.struct _=>true|.array _ _=>true|_=>false
def tf (P:Program) (t:TypeId) (i:Nat):Option Nat:=
 match P.underlying t with
 | some (.struct fs)=>(fs[i]?).bind fun f=>match tn P f.type with
  | some (_+1)=>some f.offset
  | _=>none
 | _=>none
def Yu (P:Program) (t:TypeId):Option (Nat × TypeId):=match P.underlying t with|some (.array n e)=>some (n,e)|_=>none
def Jf (P:Program) (t:TypeId):Option TypeId:=match P.underlying t with|some (.slice e)=>some e|_=>none
def Rk (P:Program) (t:TypeId):Option (List (Nat × Nat)):=match P.underlying t with|some (.struct fs)=>fs.toList.mapM (fun f=>(tn P f.type).map fun n=>(f.offset,n))|_=>none
def tfl (P:Program) (t:TypeId) (i:Nat):Option (Nat × TypeId):=match P.underlying t with|some (.struct fs)=>(fs[i]?).map fun f=>(f.offset,f.type)|_=>none
def Q4 (P:Program) (t:TypeId):Bool:=match P.underlying t with|some .string=>true|_=>false
def Ia (P:Program) (t:TypeId):Option IntKind:=match P.underlying t with|some (.int k)=>some k|_=>none
def goes (P:Program) (f:FuncId):Bool:=match P.funcs[f]? with|some fn=>!(fn.name == "runtime.NumGoroutine")&&fn.body.isSome|none=>false
def cl:Value→List Value
 | .agg cs=>cs.toList
 | v=>[v]
theorem R7 (v:Value):(cl v).toArray=v.cells:=by cases v<;>rfl
section
variable (P:Program) (T:World)
def IU (c a b:Value) (K:Value→Hp→Prop) (h:Hp):Prop:=
 match c with|.bool t=>K (if t then a else b) h|_=>False
def jM (z:Option (List Value)) (t:TypeId) (K:Value→Hp→Prop) (h:Hp):Prop:=
 match z with|some l=>K (.pointer (some ⟨h.size,0,none⟩)) (h.push (.cells l.toArray t))|none=>False
def rd (h:Hp) (a:Addr) (n:Nat):Option (List Value):=
 match h[a.block]? with
 | some (.cells c _ _)=>if a.spot=none∧a.off+n≤c.size then some ((c.toList.drop a.off).take n) else none
 | _=>none
def Mg (x:Option Value) (K:Value→Hp→Prop) (h:Hp):Prop:=match x with|some v=>K v h|none=>False
def MZ (x:Option (List Value)) (K:Value→Hp→Prop) (h:Hp):Prop:=match x with|some l=>K (.agg l.toArray) h|none=>False
def Pa (s:Option Bool) (n:Option Nat) (p:Value) (K:Value→Hp→Prop) (h:Hp):Prop:=
 match p with
 | .pointer (some a)=>match s,n with
  | some false,_=>Mg (hc h a) K h
  | some true,some n=>MZ (rd h a n) K h
  | _,_=>False
 | _=>False
def Yl:List Value→Nat→List Value→List Value
 | l,_,[]=>l
 | [],_,_ :: _=>[]
 | _ :: l,0,v :: vs=>v :: Yl l 0 vs
 | x :: l,n+1,v :: vs=>x :: Yl l n (v :: vs)
def wr (h:Hp) (a:Addr) (vs:List Value):Option Hp:=
 match h[a.block]? with
 | some (.cells c e (lo,hi))=>if a.spot=none∧a.off+vs.length≤c.size∧hi≤lo∧vs.all Z5=true then some (h.setIfInBounds a.block (.cells (Yl c.toList a.off vs).toArray e (lo,hi))) else none
 | _=>none
def Jn (h:Hp) (a:Addr) (v:Value):Option Hp:=
 match h[a.block]? with
 | some (.cells c e (lo,hi))=>if a.spot=none∧a.off<c.size∧hi≤lo∧Z5 v=true then some (h.setIfInBounds a.block (.cells (c.setIfInBounds a.off v) e (lo,hi))) else none
 | _=>none
def bm (x:Option Hp) (K:Value→Hp→Prop):Prop:=match x with|some h'=>K undef h'|none=>False
def Ui (n:Option Nat) (p v:Value) (K:Value→Hp→Prop) (h:Hp):Prop:=
 match p,n with
 | .pointer (some a),some n=>
  if n=(cl v).length then
   match v with
   | .agg cs=>bm (wr h a cs.toList) K
   | v=>bm (Jn h a v) K
  else False
 | _,_=>False
def Rl (f:Option Nat) (p:Value) (K:Value→Hp→Prop) (h:Hp):Prop:=
 match f,p with
 | some o,.pointer (some a)=>K (.pointer (some (a.add o))) h
 | _,_=>False
def YW (op:BinOp) (t:TypeId) (x y:Operand) (a b:Value) (K:Value→Hp→Prop) (h:Hp):Prop:=
 hw P (do eqGuard op t x y a b;binOp op t a b) K h
def vUn (op:UnOp) (a:Value) (K:Value→Hp→Prop) (h:Hp):Prop:=hw P (Op.unary op a) K h
def Pb (src dst:TypeId) (a:Value) (K:Value→Hp→Prop) (h:Hp):Prop:=hw P (convert src dst a) K h
def wo (arr:Option (Nat × TypeId)) (sl:Option TypeId) (n:TypeId→Option Nat) (p i:Value) (K:Value→Hp→Prop) (h:Hp):Prop:=
 match i with
 | .int _ i=>(match arr,sl,p with
  | some (len,e),none,.pointer (some a)=>(match n e with
   | some n=>if 0≤i∧i<(len:Int) then K (.pointer (some (a.add (i.toNat*n)))) h else False
   | none=>False)
  | none,some e,.slice (some a) len _=>(match n e with
   | some n=>if 0≤i∧i<(len:Int) then K (.pointer (some (a.add (i.toNat*n)))) h else False
   | none=>False)
  | _,_,_=>False)
 | _=>False
def Q6 (v:Value) (i:Nat) (K:Value→Hp→Prop) (h:Hp):Prop:=
 match v with|.tuple vs=>Mg (vs[i]?) K h|_=>False
def CQ (v:Value) (K:Value→Hp→Prop) (h:Hp):Prop:=
 match v with|.pointer (some a)=>K (.pointer (some a)) h|.func (.func f) x y=>K (.func (.func f) x y) h|_=>False
def M0 (f:Value) (args:List Value) (K:Value→Hp→Prop) (h:Hp):Prop:=
 match f with
 | .func (.func f) first captured=>if goes P f=true then Zd P T f (first.toList++args++captured.toList).toArray h K
  else hw P (callFunc f (first.toList++args++captured.toList).toArray) (Xm P T K) h
 | _=>False
def Sq (b:Builtin) (ts:Array TypeId) (ty:TypeId) (cs:Array Bool) (args:List Value) (K:Value→Hp→Prop) (h:Hp):Prop:=
 hw P (builtin b ts ty cs args.toArray) (Xm P T K) h
def dM (F:Env):List Operand→List Value
 | []=>[]
 | x :: l=>ev F x :: dM F l
theorem HY (F:Env) (l:List Operand):dM F l=l.map (ev F):=by induction l with|nil=>rfl|cons x l ih=>simp[dM,ih]
def nth {α:Type}:List α→Nat→Option α
 | [],_=>none
 | x :: _,0=>some x
 | _ :: l,n+1=>nth l n
def Pc (n:Nat) (i:Nat):Option (Nat × Nat):=some (i*n,n)
def Q7 (place:Nat→Option (Nat × Nat)):List Value→List (Nat × Value)→Option (List Value)
 | cs,[]=>some cs
 | cs,(i,v) :: l=>match place i with
  | some (o,s)=>if (cl v).length=s∧o+s≤cs.length then Q7 place (Yl cs o (cl v)) l else none
  | none=>none
def CR (F:Env):List (Nat × Operand)→List (Nat × Value)
 | []=>[]
 | (i,x) :: l=>(i,ev F x) :: CR F l
def MA (n:Option Nat) (z:List Value) (parts:List (Nat × Value)) (K:Value→Hp→Prop) (h:Hp):Prop:=
 match n with|some n=>MZ (Q7 (Pc n) z parts) K h|none=>False
def Rm (z:Option (List Value)) (pl:Option (List (Nat × Nat))) (arr:Option (Nat × TypeId)) (n:TypeId→Option Nat) (parts:List (Nat × Value)) (K:Value→Hp→Prop) (h:Hp):Prop:=
 match z,pl,arr with
 | some z,some pl,none=>MZ (Q7 (nth pl) z parts) K h
 | some z,none,some (_,e)=>MA (n e) z parts K h
 | _,_,_=>False
def XS:Nat→List Value→List Value
 | 0,_=>[]
 | n+1,z=>z++XS n z
def CS:Nat→List (Nat × Value)→Option (List Value)
 | _,[]=>some []
 | k,(i,v) :: l=>if i=k∧Z5 v=true then (CS (k+1) l).map (v :: ·) else none
def bq (e:TypeId) (len:Nat) (x:Option (List Value)) (K:Value→Hp→Prop) (h:Hp):Prop:=
 match x with|some l=>K (.slice (some ⟨h.size,0,none⟩) len len) (h.push (.cells l.toArray e))|none=>False
def MB (n len:Nat) (z:List Value) (parts:List (Nat × Value)):Option (List Value):=
 if n=1∧parts.length=len then CS 0 parts else Q7 (Pc n) (XS len z) parts
def Sr (e:TypeId) (n:Option Nat) (z:Option (List Value)) (len:Nat) (parts:List (Nat × Value)) (K:Value→Hp→Prop) (h:Hp):Prop:=
 match n,z with
 | some n,some z=>if z.length=n∧len*n≤16777216 then bq e len (MB n len z parts) K h else False
 | _,_=>False
def Pd (e:Option TypeId) (n:TypeId→Option Nat) (z:TypeId→Option (List Value)) (len:Nat) (parts:List (Nat × Value)) (K:Value→Hp→Prop) (h:Hp):Prop:=
 match e with
 | some e=>Sr e (n e) (z e) len parts K h
 | none=>False
def Nh (a:Option Bool) (n:Option Nat) (cs:List Value) (o:Nat) (K:Value→Hp→Prop) (h:Hp):Prop:=
 match a,n with
 | some true,some n=>K (.agg ((cs.drop o).take n).toArray) h
 | some false,_=>Mg (nth cs o) K h
 | _,_=>False
def jN (f:Option (Nat × TypeId)) (a:TypeId→Option Bool) (n:TypeId→Option Nat) (x:Value) (K:Value→Hp→Prop) (h:Hp):Prop:=
 match f,x with
 | some (o,t),.agg cs=>Nh (a t) (n t) cs.toList o K h
 | _,_=>False
def bt (m:Option Nat) (a:Option Bool) (len:Nat) (cs:List Value) (i:Int) (K:Value→Hp→Prop) (h:Hp):Prop:=
 match m with|some m=>if 0≤i∧i<(len:Int) then Nh a (some m) cs (i.toNat*m) K h else False|none=>False
def dN (arr:Option (Nat × TypeId)) (str:Bool) (a:TypeId→Option Bool) (n:TypeId→Option Nat) (x i:Value) (K:Value→Hp→Prop) (h:Hp):Prop:=
 match i with
 | .int _ i=>(match arr,str,x with
  | some (len,e),false,.agg cs=>bt (n e) (a e) len cs.toList i K h
  | none,true,.string s=>if 0≤i∧i<(s.size:Int) then K (.int .u8 ((s.data.toList.getD i.toNat 0).toNat:Nat)) h else False
  | _,_,_=>False)
 | _=>False
def sb (x:Option Value) (d y:Nat):Option Nat:=
 match x with
 | none=>some d
 | some (.int _ i)=>if 0≤i∧i≤(y:Int) then some i.toNat else none
 | _=>none
def bz (F:Env):Option Operand→Option Value
 | none=>none
 | some x=>some (ev F x)
def Tt (n:Option Nat) (a:Option Addr) (len cap:Nat) (lo hi:Option Value) (K:Value→Hp→Prop) (h:Hp):Prop:=
 match n,sb hi len cap with
 | some n,some b=>(match sb lo 0 b with
  | some l=>K (.slice (if cap=l then a else a.map (·.add (l*n))) (b-l) (cap-l)) h
  | none=>False)
 | _,_=>False
def Ib (arr:Option (Nat × TypeId)) (sl:Option TypeId) (str:Bool) (n:TypeId→Option Nat) (x:Value) (lo hi mx:Option Value) (K:Value→Hp→Prop) (h:Hp):Prop:=
 match mx,x,arr,sl,str with
 | some mv,.slice a len cap,none,some e,_=>(match hi,sb (some mv) 0 cap with
  | some hv,some m=>Tt (n e) a len m lo (some hv) K h
  | _,_=>False)
 | none,.slice a len cap,none,some e,_=>Tt (n e) a len cap lo hi K h
 | none,.pointer (some a),some (len,e),none,_=>Tt (n e) (some a) len len lo hi K h
 | none,.string s,none,none,true=>(match sb hi s.size s.size with
  | some b=>(match sb lo 0 b with|some l=>K (.string (s.extract l b)) h|none=>False)
  | none=>False)
 | _,_,_,_,_=>False
def qS (e:TypeId) (n:Option Nat) (by':Option Nat) (z:Option (List Value)) (l c:Int) (K:Value→Hp→Prop) (h:Hp):Prop:=
 match n,by',z with
 | some n,some bytes,some z=>if z.length=n∧0≤l∧l≤c∧c≤9223372036854775807∧(bytes:Int)*c≤281474976710656 then K (.slice (some ⟨h.size,0,none⟩) l.toNat c.toNat) (h.push (.cells (XS c.toNat z).toArray e)) else False
 | _,_,_=>False
def vMk (e:Option TypeId) (n by':TypeId→Option Nat) (z:TypeId→Option (List Value)) (l c:Value) (K:Value→Hp→Prop) (h:Hp):Prop:=
 match e,l,c with
 | some e,.int _ l,.int _ c=>qS e (n e) (by' e) (z e) l c K h
 | _,_,_=>False
def Wo (op:Op) (ty:TypeId) (K:Value→Hp→Prop) (F:Env) (h:Hp):Prop:=
 match op with
 | .move x|.assign x=>K (ev F x) h
 | .pick c a b=>IU (ev F c) (ev F a) (ev F b) K h
 | .alloc e=>jM (tz P e) e K h
 | .box e x=>jM (some (cl (ev F x))) e K h
 | .load t a=>Pa (ta P t) (tn P t) (ev F a) K h
 | .store t a x=>Ui (tn P t) (ev F a) (ev F x) K h
 | .fieldAddr t x i=>Rl (tf P t i) (ev F x) K h
 | .indexAddr t x i=>wo (Yu P t) (Jf P t) (tn P) (ev F x) (ev F i) K h
 | .nilCheck x=>CQ (ev F x) K h
 | .binOp op t x y _=>YW P op t x y (ev F x) (ev F y) K h
 | .unOp op _ x=>vUn P op (ev F x) K h
 | .convert s d x=>Pb P s d (ev F x) K h
 | .extract x i=>Q6 (ev F x) i K h
 | .makeFunc fn first captured=>K (.func fn (dM F first.toList).toArray (dM F captured.toList).toArray) h
 | .call ⟨.value f,args,_⟩=>M0 P T (ev F f) (dM F args.toList) K h
 | .call ⟨.builtin b,args,ts⟩=>Sq P T b ts ty (args.map fun|.const _=>true|_=>false) (dM F args.toList) K h
 | .build t parts=>Rm (tz P t) (Rk P t) (Yu P t) (tn P) (CR F parts.toList) K h
 | .buildSlice t len parts=>Pd (Jf P t) (tn P) (tz P) len (CR F parts.toList) K h
 | .field t x i=>jN (tfl P t i) (ta P) (tn P) (ev F x) K h
 | .index t x i=>dN (Yu P t) (Q4 P t) (ta P) (tn P) (ev F x) (ev F i) K h
 | .slice t x lo hi mx=>Ib (Yu P t) (Jf P t) (Q4 P t) (tn P) (ev F x) (bz F lo) (bz F hi) (bz F mx) K h
 | .makeSlice t l c=>vMk (Jf P t) (tn P) (tb P) (tz P) (ev F l) (ev F c) K h
 | op=>K0 P T ⟨none,op,ty, "", #[],none⟩ K F h
end
section
variable {P:Program} {T:World} {K:Value→Hp→Prop} {F:Env} {h:Hp} {ty:TypeId}
theorem CT {Q:Program→Hp→Prop}:hw P program Q h=Q P h:=rfl
theorem Zt {α:Type} {Q:α→Hp→Prop} (a:α):hw P (pure a) Q h=Q a h:=rfl
theorem Y1 {t:TypeId} {d:TypeInfo} (hd:P.info? t=some d) {Q:TypeInfo→Hp→Prop}:hw P (typeInfo t) Q h=Q d h:=by
 simp only[typeInfo];rw[Zf];simp only[program,hw];rw[hd];rfl
theorem Zr {t:TypeId} {d:TypeDesc} (hd:P.underlying t=some d) {Q:TypeDesc→Hp→Prop}:hw P (underlying t) Q h=Q d h:=by
 simp only[underlying];rw[Zf];simp only[program,hw];rw[hd];rfl
theorem run_sizeOf {t:TypeId} {n:Nat} (hn:tn P t=some n) {Q:Nat→Hp→Prop}:hw P (sizeOf t) Q h=Q n h:=by
 unfold tn at hn
 cases hi:P.info? t with
 | none=>rw[hi]at hn;cases hn
 | some i=>
  rw[hi]at hn
  simp only[Option.map_some,Option.some.injEq]at hn
  subst hn
  unfold sizeOf
  rw[Zf,Y1 hi];rfl
theorem UK {t:TypeId} {b:Bool} (hb:ta P t=some b) {Q:Bool→Hp→Prop}:hw P (isAgg t) Q h=Q b h:=by
 unfold ta at hb
 cases hi:P.underlying t with
 | none=>rw[hi]at hb;cases hb
 | some d=>
  rw[hi]at hb
  simp only[Option.map_some,Option.some.injEq]at hb
  subst hb
  unfold isAgg
  rw[Zf,Zr hi]
  cases d<;>rfl
theorem YQ (b o n:Nat):Addr.add ⟨b,o,none⟩ n=⟨b,o+n,none⟩:=by
 unfold Addr.add
 split
 ·rename_i h;subst h;rfl
 ·rfl
theorem Ss (a:Addr) (n:Nat) (ha:a.spot=none):a.add n=⟨a.block,a.off+n,none⟩:=by
 obtain⟨b,o,s⟩:=a
 simp only at ha
 subst ha
 exact YQ b o n
theorem run_loadCells (a:Addr) (c:List Value) {Q:Array Value→Hp→Prop}:∀(n i:Nat) (acc:Array Value),
  (∀j,j<n→hc h (a.add (i+j))=some (c.getD j undef))→n=c.length→Q (acc++c.toArray) h→hw P (loadCellsFrom a i n acc) Q h:=by
 induction c with
 | nil=>intro n i acc _ hn H;subst hn;simpa [loadCellsFrom,pure,hw] using H
 | cons v c ih=>
  intro n i acc hj hn H
  subst hn
  show hw P (load (a.add i) >>= fun v=>loadCellsFrom a (i+1) c.length (acc.push v)) Q h
  rw[Zf]
  refine⟨v,by simpa using hj 0 (by simp),?_⟩
  refine ih _ (i+1) _ (fun j Ic=>?_) rfl ?_
  ·have:=hj (j+1) (by simp;omega)
   have e:i+(j+1)=i+1+j:=by omega
   rw[e]at this
   simpa using this
  ·simpa using H
theorem CU {t:TypeId} {v:Value} (H:Pa (ta P t) (tn P t) v K h):hw P (Instr.loadAt t v) K h:=by
 unfold Pa at H
 split at H
 ·rename_i a
  unfold Instr.loadAt
  rw[Zf]
  show hw P (loadVar t a) K h
  unfold loadVar
  rw[Zf]
  split at H
  ·rename_i hs
   rw[UK hs]
   unfold Mg at H
   split at H
   ·rename_i v hv;exact⟨v,hv,H⟩
   ·exact H.elim
  ·rename_i n hs hn
   rw[UK hs]
   simp only[if_true]
   rw[Zf,run_sizeOf hn,Zf]
   unfold MZ at H
   split at H
   ·rename_i l hl
    unfold rd at hl
    split at hl
    ·rename_i c e fr hb
     split at hl
     ·rename_i Pe
      obtain⟨h1,h2⟩:=Pe
      simp only[Option.some.injEq]at hl
      subst hl
      have hlen:((c.toList.drop a.off).take n).length=n:=by simp;omega
      refine run_loadCells a _ n 0 #[] (fun j hj=>?_) hlen.symm (by simpa [Zt] using H)
      rw[Ss a _ h1]
      unfold hc
      rw[hb]
      simp only[Option.isSome_none,Bool.false_eq_true,if_false]
      rw[List.getD_eq_getElem?_getD,List.getElem?_take,if_pos hj,List.getElem?_drop]
      have e:a.off+(0+j)=a.off+j:=by omega
      rw[e]
      simp
      rw[Array.getElem?_eq_getElem (by omega)];rfl
     ·cases hl
    ·cases hl
   ·exact H.elim
  ·exact H.elim
 ·exact H.elim
theorem run_store {a:Addr} {v:Value} {Q:Unit→Hp→Prop}:hw P (store a v) Q h=(Z5 v=true∧(∃u,hc h a=some u)∧jI h a=false∧Q () (dH h a v)):=rfl
theorem qU {a:Addr} {c:Array Value} {e:TypeId} {fr:Nat × Nat} (hb:h[a.block]? = some (.cells c e fr)) (hs:a.spot=none) (v:Value) :
  dH h a v=h.setIfInBounds a.block (.cells (c.setIfInBounds a.off v) e fr):=by
 obtain⟨ZA,CV⟩:=Array.getElem?_eq_some_iff.1 hb
 unfold dH
 apply Array.ext_getElem?
 intro i
 rw[Array.getElem?_modify,Array.getElem?_setIfInBounds]
 by_cases hi:a.block=i
 ·subst hi
  simp[CV,hs,ZA]
 ·simp[hi]
theorem Vl (l:List Value) (n:Nat) (v:Value) (vs:List Value):Yl l n (v :: vs)=Yl (l.set n v) (n+1) vs:=by
 induction l generalizing n with
 | nil=>cases vs<;>simp[Yl]
 | cons x l ih=>
  cases n with
  | zero=>
   simp only[Yl,List.set_cons_zero]
   cases vs with
   | nil=>simp[Yl]
   | cons u us=>simp[Yl]
  | succ n=>
   simp only[Yl,List.set_cons_succ]
   rw[ih]
   cases vs with
   | nil=>simp[Yl]
   | cons u us=>simp[Yl]
theorem Yf {a:Addr} {e:TypeId} {lo hi:Nat} {Q:Unit→Hp→Prop} (hs:a.spot=none) (ZjP:hi≤lo):∀(vs:List Value) (i:Nat) (h:Hp) (c:Array Value),
  h[a.block]? = some (.cells c e (lo,hi))→a.off+i+vs.length≤c.size→vs.all Z5=true →
  Q () (h.setIfInBounds a.block (.cells (Yl c.toList (a.off+i) vs).toArray e (lo,hi)))→hw P (storeCells a vs i) Q h
 | [],i,h,c,hb,_,_,H=>by
  have e:h.setIfInBounds a.block (.cells (Yl c.toList (a.off+i) []).toArray e (lo,hi))=h:=by
   have ZA:=(Array.getElem?_eq_some_iff.1 hb).1
   apply Array.ext_getElem?
   intro j
   rw[Array.getElem?_setIfInBounds]
   by_cases hj:a.block=j
   ·subst hj;rw[if_pos rfl,if_pos ZA,hb];simp[Yl]
   ·simp[hj]
  rw[e]at H
  exact H
 | v :: vs,i,h,c,hb,hlen,Xd,H=>by
  simp only[List.all_cons,Bool.and_eq_true]at Xd
  simp only[List.length_cons]at hlen
  show hw P (store (a.add i) v >>= fun _=>storeCells a vs (i+1)) Q h
  rw[Zf,run_store,Ss a i hs]
  have ZA:a.block<h.size:=(Array.getElem?_eq_some_iff.1 hb).1
  refine⟨Xd.1,?_,?_,?_⟩
  ·unfold hc;simp only[hb]
   refine⟨c[a.off+i]'(by omega),?_⟩
   simp only[Option.isSome_none,Bool.false_eq_true,if_false]
   rw[Array.getElem?_eq_getElem (by omega)]
  ·unfold jI;simp only[hb];simp;omega
  ·have X3:h[({ block:=a.block,off:=a.off+i,spot:=none }:Addr).block]? = some (.cells c e (lo,hi)):=hb
   rw[qU X3 rfl]
   have Ie:(h.setIfInBounds a.block (.cells (c.setIfInBounds (a.off+i) v) e (lo,hi)))[a.block]? = some (.cells (c.setIfInBounds (a.off+i) v) e (lo,hi)):=by
    simp[ZA]
   refine Yf hs ZjP vs (i+1) _ _ Ie (by simp;omega) Xd.2 ?_
   have e2:(h.setIfInBounds a.block (.cells (c.setIfInBounds (a.off+i) v) e (lo,hi))).setIfInBounds a.block
     (.cells (Yl (c.setIfInBounds (a.off+i) v).toList (a.off+(i+1)) vs).toArray e (lo,hi)) =
     h.setIfInBounds a.block (.cells (Yl c.toList (a.off+i) (v :: vs)).toArray e (lo,hi)):=by
    rw[Vl,Array.toList_setIfInBounds]
    rw[Array.setIfInBounds_setIfInBounds,Nat.add_assoc]
   rw[e2];exact H
theorem FK {t:TypeId} {p v:Value} (H:Ui (tn P t) p v K h):hw P (Instr.storeAt t p v) (fun _ h=>K undef h) h:=by
 unfold Ui at H
 split at H
 ·rename_i a n hn
  unfold Instr.storeAt
  rw[Zf]
  show hw P (storeVar t a v) _ h
  unfold storeVar
  split at H
  ·rename_i hlen
   have wq:v.cells.size=n:=by rw[←R7,hlen];simp
   rw[Zf,run_sizeOf hn]
   simp only[wq,ne_eq,not_true_eq_false,if_false]
   show hw P (storeCells a v.cells.toList) _ h
   split at H
   ·rename_i cs
    unfold bm at H
    split at H
    ·rename_i h' hh
     unfold wr at hh
     split at hh
     ·rename_i c e lo hi hb
      split at hh
      ·rename_i yv
       obtain⟨h1,h2,h3,h4⟩:=yv
       simp only[Option.some.injEq]at hh
       subst hh
       exact Yf h1 h3 cs.toList 0 h c hb h2 h4 H
      ·cases hh
     ·cases hh
    ·exact H.elim
   ·rename_i hna
    have yw:v.cells.toList=[v]:=by cases v<;>first|rfl|exact (hna _ rfl).elim
    rw[yw]
    unfold bm at H
    split at H
    ·rename_i h' hh
     unfold Jn at hh
     split at hh
     ·rename_i c e lo hi hb
      split at hh
      ·rename_i yv
       obtain⟨h1,h2,h3,h4⟩:=yv
       simp only[Option.some.injEq]at hh
       subst hh
       refine Yf h1 h3 [v] 0 h c hb (by simp;omega) (by simpa using h4) ?_
       have e1:(Yl c.toList (a.off+0) [v]).toArray=c.setIfInBounds a.off v:=by
        rw[Vl,Nat.add_zero]
        apply Array.toList_inj.1
        rw[Array.toList_setIfInBounds]
        cases h9:(c.toList.set a.off v)<;>simp[Yl]
       rw[e1];exact H
      ·cases hh
     ·cases hh
    ·exact H.elim
  ·exact H.elim
 ·exact H.elim
theorem FL {t:TypeId} {p:Value} {i:Nat} (H:Rl (tf P t i) p K h):hw P (Instr.fieldAt t p i) K h:=by
 unfold Rl at H
 split at H
 ·rename_i o a hf
  unfold tf at hf
  split at hf
  ·rename_i fs hu
   unfold Instr.fieldAt
   rw[Zf,Zr hu]
   cases FM:fs[i]? with
   | none=>rw[FM]at hf;cases hf
   | some f=>
    rw[FM]at hf
    simp only[Option.bind_some]at hf
    split at hf
    ·rename_i m hm
     simp only[Option.some.injEq]at hf
     subst hf
     simp only[FM]
     simp only[Instr.sureAddr,fieldPlace,Zf,Zt,run_sizeOf hm,if_neg (Nat.succ_ne_zero m)]
     exact H
    ·cases hf
  ·cases hf
 ·exact H.elim
theorem jO {t:TypeId} {p i:Value} (H:wo (Yu P t) (Jf P t) (tn P) p i K h):hw P (Instr.indexAt t p i) K h:=by
 unfold wo at H
 split at H
 ·rename_i k i
  split at H
  ·rename_i len e a ha hs
   split at H
   ·rename_i n hn
    unfold Yu at ha
    split at ha
    ·rename_i m e' hu
     simp only[Option.some.injEq,Prod.mk.injEq]at ha
     obtain⟨rfl,rfl⟩:=ha
     split at H
     ·rename_i hb
      simp only[Instr.indexAt,asIntOf,Instr.sureAddr,Zf,Zt,Zr hu,if_pos hb,run_sizeOf hn]
      exact H
     ·exact H.elim
    ·cases ha
   ·exact H.elim
  ·rename_i e a len cap ha hs
   split at H
   ·rename_i n hn
    unfold Jf at hs
    split at hs
    ·rename_i e' hu
     simp only[Option.some.injEq]at hs
     subst hs
     split at H
     ·rename_i hb
      simp only[Instr.indexAt,asIntOf,Instr.sureAddr,Zf,Zt,Zr hu,if_pos hb,run_sizeOf hn]
      exact H
     ·exact H.elim
    ·cases hs
   ·exact H.elim
  ·exact H.elim
 ·exact H.elim
theorem Ig {v:Value} {i:Nat} (H:Q6 v i K h):hw P (Instr.extract v i) K h:=by
 unfold Q6 at H
 split at H
 ·rename_i vs
  unfold Mg at H
  split at H
  ·rename_i v hv;simp only[Instr.extract,hv];exact H
  ·exact H.elim
 ·exact H.elim
theorem CW {x:Operand} {f:Value} {c:Call} {args:List Value} (hc:c.callee=.value x) (hf:ev F x=f) (ha:(c.args.map (ev F)).toList=args) (H:M0 P T f args K h) :
  hw P (do let d ←resolve (ev F) c ty;invoke d.target d.args) (Xm P T K) h:=by
 unfold M0 at H
 split at H
 ·rename_i f first captured
  have e:first++c.args.map (ev F)++captured=(first.toList++args++captured.toList).toArray:=by rw[←ha];simp
  by_cases hg:goes P f=true
  case neg=>
   rw[if_neg hg]at H
   simp only[resolve,hc,hf,Deferred.ofValue,Zf,Zt,invoke]
   rw[e]
   exact H
  rw[if_pos hg]at H
  unfold goes at hg
  split at hg
  ·rename_i fn dO
   simp only[Bool.and_eq_true,Bool.not_eq_true']at hg
   have Zcv:fn.body.isNone=false:=by
    cases hb:fn.body with
    | none=>rw[hb]at hg;simp at hg
    | some _=>rfl
   simp only[resolve,hc,hf,Deferred.ofValue,Zf,Zt,invoke,callFunc,CT,dO,hg.1,Bool.false_eq_true,if_false,Zcv]
   rw[e]
   exact H
  ·cases hg
 ·exact H.elim
theorem MC {t:TypeId} {z:List Value} (hz:tz P t=some z):∃v,v.cells=z.toArray∧∀{Q:Value→Hp→Prop} {h:Hp},hw P (zeroValue t) Q h=Q v h:=by
 unfold tz at hz
 cases hi:P.info? t with
 | none=>rw[hi]at hz;cases hz
 | some i=>
  rw[hi]at hz
  cases MD:i.zero with
  | none=>rw[Option.bind_some,MD]at hz;cases hz
  | some v=>
   rw[Option.bind_some,MD]at hz
   simp only[Option.map_some,Option.some.injEq]at hz
   refine⟨v,by rw[←hz,Array.toArray_toList],fun {Q h}=>?_⟩
   unfold zeroValue
   rw[Zf,Y1 hi]
   simp only[MD]
   rfl
theorem IV (off:Nat):∀(vs:List Value) (k:Nat) (cells:Array Value),
  ((vs.zipIdx k).foldl (fun (cs:Array Value) (x:Value × Nat)=>cs.setIfInBounds (off+x.2) x.1) cells).toList=Yl cells.toList (off+k) vs
 | [],k,cells=>by cases h:cells.toList<;>simp[Yl,h]
 | v :: vs,k,cells=>by
  rw[List.zipIdx_cons,List.foldl_cons,IV off vs (k+1),Vl,Array.toList_setIfInBounds,Nat.add_assoc]
theorem ME {place:Nat→Option (Nat × Nat)}:∀(parts:List (Nat × Value)) (cs:List Value) (jP:List Value),Q7 place cs parts=some jP→Instr.fill place cs.toArray parts=some jP.toArray
 | [],cs,jP,h=>by simp only[Q7,Option.some.injEq]at h;subst h;rfl
 | (i,v) :: l,cs,jP,h=>by
  unfold Q7 at h
  unfold Instr.fill
  cases hp:place i with
  | none=>rw[hp]at h;cases h
  | some os=>
   obtain⟨o,s⟩:=os
   rw[hp]at h
   simp only at h ⊢
   split at h
   ·rename_i hc
    have wq:v.cells.size=s:=by rw[←R7];simpa using hc.1
    have Pe:¬((decide (v.cells.size≠s)||decide (o+v.cells.size>cs.toArray.size))=true):=by
     rw[wq];simp;omega
    rw[if_neg Pe]
    have e:(v.cells.zipIdx.foldl (fun (cs:Array Value) (x:Value × Nat)=>cs.setIfInBounds (o+x.2) x.1) cs.toArray)=(Yl cs o (cl v)).toArray:=by
     apply Array.toList_inj.1
     have:=IV o (cl v) 0 cs.toArray
     rw[←R7,Array.zipIdx,←Array.foldl_toList]
     have e3:(cl v).mapIdx (fun i a=>(a,i))=(cl v).zipIdx 0:=by
      apply List.ext_getElem?
      intro i
      simp[List.getElem?_zipIdx]
     simpa [Array.zipIdx,e3] using this
    have key:=ME l _ _ h
    rw[←e]at key
    exact key
   ·cases h
theorem Yj {α:Type} (l:List α) (n:Nat):nth l n=l[n]?:=by
 induction l generalizing n with
 | nil=>simp[nth]
 | cons x l ih=>cases n<;>simp[nth,ih]
theorem bB (F:Env) (l:List (Nat × Operand)):CR F l=l.map fun x=>(x.1,ev F x.2):=by
 induction l with
 | nil=>rfl
 | cons x l ih=>obtain⟨i,x⟩:=x;simp[CR,ih]
theorem run_places:∀(l:List Field) (Q:List (Nat × Nat)→Hp→Prop) (pl:List (Nat × Nat)),l.mapM (fun f:Field=>(tn P f.type).map fun n=>(f.offset,n))=some pl →
  Q pl h→hw P (l.mapM fun f:Field=>do pure (f.offset,←sizeOf f.type)) Q h
 | [],Q,pl,hp,H=>by
  simp only[List.mapM_nil,pure,Option.some.injEq]at hp
  subst hp
  exact H
 | f :: l,Q,pl,hp,H=>by
  rw[List.mapM_cons]at hp
  cases hn:tn P f.type with
  | none=>rw[hn]at hp;cases hp
  | some n=>
   rw[hn]at hp
   cases hl:l.mapM (fun f:Field=>(tn P f.type).map fun n=>(f.offset,n)) with
   | none=>simp[hl]at hp
   | some pl'=>
    simp[hl]at hp
    subst hp
    rw[List.mapM_cons,Zf,Zf,run_sizeOf hn]
    show hw P (_ >>= _) Q h
    rw[Zf]
    exact run_places l _ pl' hl H
theorem FN {t:TypeId} {parts:Array (Nat × Operand)} (H:Rm (tz P t) (Rk P t) (Yu P t) (tn P) (CR F parts.toList) K h):hw P (Instr.build t (parts.map fun (i,x)=>(i,ev F x))) K h:=by
 have e1:(parts.map fun (i,x)=>(i,ev F x)).toList=CR F parts.toList:=by rw[bB,Array.toList_map]
 unfold Instr.build
 rw[e1]
 unfold Rm at H
 split at H
 ·rename_i z pl hz M1 _
  obtain⟨v,hv,yD⟩:=MC hz
  rw[Zf,yD,Zf,hv]
  unfold Rk at M1
  split at M1
  ·rename_i fs hu
   rw[Zr hu]
   simp only
   rw[Zf,←Array.toArray_toList (xs:=fs),List.mapM_toArray,map_eq_pure_bind,Zf]
   refine run_places fs.toList _ pl M1 ?_
   unfold MZ at H
   split at H
   ·rename_i cs Yx
    have e2:(fun i=>pl.toArray[i]?)=nth pl:=by funext i;rw[Yj];simp
    have:=ME _ _ _ Yx
    rw[←e2]at this
    simp only[Zt,this]
    exact H
   ·exact H.elim
  ·cases M1
 ·rename_i z n e hz _ ha
  obtain⟨v,hv,yD⟩:=MC hz
  rw[Zf,yD,Zf,hv]
  unfold Yu at ha
  split at ha
  ·rename_i n' e' hu
   simp only[Option.some.injEq,Prod.mk.injEq]at ha
   obtain⟨rfl,rfl⟩:=ha
   rw[Zr hu]
   simp only
   unfold MA at H
   split at H
   ·rename_i m hm
    rw[Zf,run_sizeOf hm]
    unfold MZ at H
    split at H
    ·rename_i cs Yx
     have:=ME _ _ _ Yx
     have e2:(fun i=>some (i*m,m))=Pc m:=rfl
     rw[e2]
     simp only[this]
     exact H
    ·exact H.elim
   ·exact H.elim
  ·cases ha
 ·exact H.elim
theorem bC (z:List Value) (hz:z≠[]):∀(len:Nat),(Array.range (len*z.length)).map (fun j=>z.toArray[j%z.toArray.size]!)=(XS len z).toArray:=by
 have M3:0<z.length:=List.length_pos_iff.2 hz
 have hlen:∀len,(XS len z).length=len*z.length:=by
  intro len
  induction len with
  | zero=>simp[XS]
  | succ n ih=>simp[XS,ih,Nat.add_mul,Nat.add_comm]
 have CV:∀len j,j<len*z.length→(XS len z)[j]? = z[j%z.length]?:=by
  intro len
  induction len with
  | zero=>intro j hj;simp at hj
  | succ n ih=>
   intro j hj
   simp only[XS]
   by_cases Ic:j<z.length
   ·rw[List.getElem?_append_left Ic,Nat.mod_eq_of_lt Ic]
   ·rw[List.getElem?_append_right (by omega),ih (j-z.length) (by rw[Nat.add_mul]at hj;omega)]
    rw[Nat.mod_eq_sub_mod (by omega:j ≥ z.length)]
 intro len
 apply Array.ext_getElem?
 intro j
 by_cases hj:j<len*z.length
 ·have ZjQ:j%z.length<z.length:=Nat.mod_lt _ M3
  simp[hj,CV len j hj,ZjQ]
 ·have h2:(XS len z)[j]? = none:=List.getElem?_eq_none (by rw[hlen];omega)
  simp[hj,h2]
theorem TH (z:List Value):∀n,(XS n z).length=n*z.length:=by
 intro len
 induction len with
 | zero=>simp[XS]
 | succ n ih=>simp[XS,ih,Nat.add_mul,Nat.add_comm]
theorem IW:∀(parts:List (Nat × Value)) (pre vs rest:List Value),CS pre.length parts=some vs→rest.length=parts.length→Q7 (Pc 1) (pre++rest) parts=some (pre++vs)
 | [],pre,vs,rest,h,hl=>by
  simp only[CS,Option.some.injEq]at h
  subst h
  have:rest=[]:=List.eq_nil_of_length_eq_zero (by simpa using hl)
  simp[Q7,this]
 | (i,v) :: l,pre,vs,rest,h,hl=>by
  unfold CS at h
  split at h
  ·rename_i hc
   obtain⟨rfl,hv⟩:=hc
   cases hs:CS (pre.length+1) l with
   | none=>rw[hs]at h;cases h
   | some us=>
    rw[hs]at h
    simp only[Option.map_some,Option.some.injEq]at h
    subst h
    cases rest with
    | nil=>simp at hl
    | cons r rest=>
     have X4:cl v=[v]:=by cases v<;>first|rfl|(simp[Z5]at hv)
     have e1:Yl (pre++r :: rest) pre.length [v]=(pre++[v])++rest:=by
      rw[Vl]
      simp[Yl]
     have ih:=IW l (pre++[v]) us rest (by simpa using hs) (by simpa using hl)
     simp only[Q7,Pc,X4,Nat.mul_one,List.length_cons,List.length_nil,List.length_append]
     rw[if_pos (by simp),e1,ih]
     simp
  ·cases h
theorem Ih {t:TypeId} {len:Nat} {parts:Array (Nat × Operand)} (H:Pd (Jf P t) (tn P) (tz P) len (CR F parts.toList) K h):hw P (Instr.buildSlice t len (parts.map fun (i,x)=>(i,ev F x))) K h:=by
 have e1:(parts.map fun (i,x)=>(i,ev F x)).toList=CR F parts.toList:=by rw[bB,Array.toList_map]
 unfold Instr.buildSlice
 rw[e1]
 unfold Pd at H
 split at H
 ·rename_i e he
  unfold Jf at he
  split at he
  ·rename_i e' hu
   simp only[Option.some.injEq]at he
   subst he
   unfold Sr at H
   split at H
   ·rename_i n z hn hz
    split at H
    ·rename_i hc
     obtain⟨CD,hle⟩:=hc
     unfold bq at H
     split at H
     ·rename_i l hl
      have Zcw:Q7 (Pc n) (XS len z) (CR F parts.toList)=some l:=by
       unfold MB at hl
       split at hl
       ·rename_i hc
        obtain⟨rfl,M1⟩:=hc
        have:=IW (CR F parts.toList) [] l (XS len z) hl (by rw[TH,CD,M1,Nat.mul_one])
        simpa using this
       ·exact hl
      rw[Zf,Zr hu]
      simp only
      rw[Zf,run_sizeOf hn,if_neg (by omega)]
      have fin:∀z':Array Value,(Array.range (len*n)).map (fun j=>z'[j%z'.size]!)=(XS len z).toArray→hw P (match Instr.fill (fun i=>some (i*n,n)) ((Array.range (len*n)).map (fun j=>z'[j%z'.size]!)) (CR F parts.toList) with
        | some cells=>do
         let a ←newRow e' cells
         pure (Value.slice (some a) len len)
        | x=>stuck "buildSlice: a part of the wrong size") K h:=by
       intro z' FO
       have:=ME _ _ _ Zcw
       have e2:(fun i=>some (i*n,n))=Pc n:=rfl
       rw[e2,FO]
       simp only[this]
       exact H
      split
      ·rename_i h0
       refine fin #[] ?_
       have:(XS len z).length=0:=by rw[TH,CD,h0]
       rw[List.eq_nil_of_length_eq_zero this,h0]
       simp
      ·rename_i h0
       obtain⟨v,hv,hr⟩:=MC hz
       rw[Zf,hr]
       refine fin v.cells ?_
       have:z≠[]:=by intro e;subst e;simp at CD;subst CD;simp at h0
       rw[hv,←CD]
       exact bC z this len
     ·exact H.elim
    ·exact H.elim
   ·exact H.elim
  ·cases he
 ·exact H.elim
theorem M7 {t:TypeId} {cs:Array Value} {o:Nat} (H:Nh (ta P t) (tn P t) cs.toList o K h):hw P (part t cs o) K h:=by
 unfold Nh at H
 unfold part
 rw[Zf]
 split at H
 ·rename_i n ha hn
  rw[UK ha,if_pos rfl,Zf,run_sizeOf hn]
  have e:(cs.extract o (o+n))=((cs.toList.drop o).take n).toArray:=by
   apply Array.toList_inj.1
   simp[List.extract_eq_take_drop]
  rw[e]
  exact H
 ·rename_i ha
  rw[UK ha,if_neg (by simp)]
  unfold Mg at H
  split at H
  ·rename_i v hv
   rw[Yj]at hv
   have:cs[o]? = some v:=by rw[←Array.getElem?_toList];exact hv
   simp only[this]
   exact H
  ·exact H.elim
 ·exact H.elim
theorem dP {t:TypeId} {x:Value} {i:Nat} (H:jN (tfl P t i) (ta P) (tn P) x K h):hw P (Instr.field t x i) K h:=by
 unfold jN at H
 split at H
 ·rename_i o ft cs hf
  unfold tfl at hf
  split at hf
  ·rename_i fs hu
   unfold Instr.field
   rw[Zf,Zr hu]
   cases FM:fs[i]? with
   | none=>rw[FM]at hf;cases hf
   | some f=>
    rw[FM]at hf
    simp only[Option.map_some,Option.some.injEq,Prod.mk.injEq]at hf
    obtain⟨rfl,rfl⟩:=hf
    simp only[FM]
    exact M7 H
  ·cases hf
 ·exact H.elim
theorem dQ {t:TypeId} {x i:Value} (H:dN (Yu P t) (Q4 P t) (ta P) (tn P) x i K h):hw P (Instr.index t x i) K h:=by
 unfold dN at H
 split at H
 ·rename_i k i
  split at H
  ·rename_i len e cs ha _
   unfold Yu at ha
   split at ha
   ·rename_i n' e' hu
    simp only[Option.some.injEq,Prod.mk.injEq]at ha
    obtain⟨rfl,rfl⟩:=ha
    unfold bt at H
    split at H
    ·rename_i m hm
     split at H
     ·rename_i hc
      unfold Instr.index
      simp only[asIntOf,Zf,Zt,Zr hu,if_pos hc,run_sizeOf hm]
      exact M7 (by rw[hm];exact H)
     ·exact H.elim
    ·exact H.elim
   ·cases ha
  ·rename_i s _ hs
   unfold Q4 at hs
   split at hs
   ·rename_i hu
    split at H
    ·rename_i hc
     unfold Instr.index
     have ZA:i.toNat<s.size:=by omega
     have e:s[i.toNat]? = some s[i.toNat]:=by exact getElem?_pos s i.toNat ZA
     have e2:s.data.toList.getD i.toNat 0=s[i.toNat]:=by
      have H4:i.toNat<s.data.toList.length:=by simpa using ZA
      rw[List.getD_eq_getElem?_getD,List.getElem?_eq_getElem H4,Option.getD_some]
      rfl
     simp only[asIntOf,Zf,Zt,Zr hu,if_pos hc.1,e]
     rw[e2]at H
     exact H
    ·exact H.elim
   ·cases hs
  ·exact H.elim
 ·exact H.elim
theorem La {x:Option Value} {v:Value} {y n:Nat} {c:BoundsCode} (hx:x=some v) (hs:sb x 0 y=some n) {Q:Nat→Hp→Prop}:hw P (Instr.sliceBound v y c) Q h=Q n h:=by
 subst hx
 unfold sb at hs
 split at hs
 ·rename_i he;cases he
 ·rename_i k i he
  simp only[Option.some.injEq]at he
  subst he
  split at hs
  ·rename_i hc
   simp only[Option.some.injEq]at hs
   subst hs
   unfold Instr.sliceBound
   simp only[asIntOf,Zf,Zt,if_pos hc]
  ·cases hs
 ·cases hs
theorem Ro {isS:Bool} {len cap b l:Nat} {lo hi:Option Value} (hb:sb hi len cap=some b) (hl:sb lo 0 b=some l) {Q:Nat × Nat × Nat→Hp→Prop} (H:Q (l,b,cap) h):hw P (Instr.sliceBounds isS len cap lo hi none) Q h:=by
 have h2:∀{c:BoundsCode},hw P (match lo with
   | some v=>do
    let l ←Instr.sliceBound v b c
    pure (l,b,cap)
   | none=>do
    let l ←pure 0
    pure (l,b,cap)) Q h:=by
  intro c
  cases lo with
  | none=>simp only[sb,Option.some.injEq]at hl;subst hl;exact H
  | some v=>
   simp only
   rw[Zf,La rfl hl]
   exact H
 unfold Instr.sliceBounds
 rw[Zf]
 show hw P (pure cap) _ h
 rw[Zt]
 cases hi with
 | none=>
  simp only[sb,Option.some.injEq]at hb
  subst hb
  exact h2
 | some v=>
  have X3:sb (some v) 0 cap=some b:=by unfold sb at hb ⊢;cases v<;>simp at hb ⊢<;>exact hb
  simp only
  rw[Zf,La rfl X3]
  exact h2
theorem FP {isS:Bool} {len cap m b l:Nat} {lo:Option Value} {hv mv:Value} (hm:sb (some mv) 0 cap=some m) (hb:sb (some hv) len m=some b) (hl:sb lo 0 b=some l) {Q:Nat × Nat × Nat→Hp→Prop} (H:Q (l,b,m) h):hw P (Instr.sliceBounds isS len cap lo (some hv) (some mv)) Q h:=by
 have X3:sb (some hv) 0 m=some b:=by unfold sb at hb ⊢;cases hv<;>simp at hb ⊢<;>exact hb
 unfold Instr.sliceBounds
 rw[Zf]
 show hw P (Instr.sliceBound mv cap _) _ h
 rw[La rfl hm,Zf,La rfl X3]
 cases lo with
 | none=>simp only[sb,Option.some.injEq]at hl;subst hl;exact H
 | some v=>
  show hw P (Instr.sliceBound v b _ >>= _) _ h
  rw[Zf,La rfl hl]
  exact H
theorem dR {t:TypeId} {x:Value} {lo hi mx:Option Operand} (H:Ib (Yu P t) (Jf P t) (Q4 P t) (tn P) x (bz F lo) (bz F hi) (bz F mx) K h):hw P (Instr.sliceAt t x (lo.map (ev F)) (hi.map (ev F)) (mx.map (ev F))) K h:=by
 have e:∀o,bz F o=o.map (ev F):=fun o=>by cases o<;>rfl
 rw[e,e,e]at H
 generalize lo.map (ev F)=lo at *
 generalize hi.map (ev F)=hi at *
 generalize mx.map (ev F)=mx at *
 unfold Ib at H
 split at H
 ·rename_i mv a len cap e ha hs
  unfold Jf at hs
  split at hs
  ·rename_i e' hu
   simp only[Option.some.injEq]at hs
   subst hs
   split at H
   ·rename_i hv m hm
    unfold Tt at H
    split at H
    ·rename_i n b hn hb
     split at H
     ·rename_i l hl
      unfold Instr.sliceAt
      rw[Zf,Zr hu]
      simp only
      unfold Instr.slice
      rw[Zf,Zr hu]
      simp only
      rw[Zf]
      refine FP hm hb hl ?_
      simp only[Zf,run_sizeOf hn,Zt]
      exact H
     ·exact H.elim
    ·exact H.elim
   ·exact H.elim
  ·cases hs
 ·rename_i a len cap e ha hs
  unfold Jf at hs
  split at hs
  ·rename_i e' hu
   simp only[Option.some.injEq]at hs
   subst hs
   unfold Tt at H
   split at H
   ·rename_i n b hn hb
    split at H
    ·rename_i l hl
     unfold Instr.sliceAt
     rw[Zf,Zr hu]
     simp only
     unfold Instr.slice
     rw[Zf,Zr hu]
     simp only
     rw[Zf]
     refine Ro hb hl ?_
     simp only[Zf,run_sizeOf hn,Zt]
     exact H
    ·exact H.elim
   ·exact H.elim
  ·cases hs
 ·rename_i a len e ha hs
  unfold Yu at ha
  split at ha
  ·rename_i n' e' hu
   simp only[Option.some.injEq,Prod.mk.injEq]at ha
   obtain⟨rfl,rfl⟩:=ha
   unfold Tt at H
   split at H
   ·rename_i n b hn hb
    split at H
    ·rename_i l hl
     unfold Instr.sliceAt
     rw[Zf,Zr hu]
     simp only[Instr.sureAddr,Zf,Zt]
     refine Ro hb hl ?_
     simp only[Zf,run_sizeOf hn,Zt]
     have e3:(if n'=l then some a else (some a).map (·.add (l*n)))=some (if n'=l then a else a.add (l*n)):=by split<;>rfl
     rw[e3]at H
     exact H
    ·exact H.elim
   ·exact H.elim
  ·cases ha
 ·rename_i s ha hs qk
  unfold Q4 at qk
  split at qk
  ·rename_i hu
   split at H
   ·rename_i b hb
    split at H
    ·rename_i l hl
     unfold Instr.sliceAt
     rw[Zf,Zr hu]
     simp only
     unfold Instr.slice
     rw[Zf,Zr hu]
     simp only[Option.isSome_none,Bool.false_eq_true,if_false]
     rw[Zf]
     refine Ro hb hl ?_
     exact H
    ·exact H.elim
   ·exact H.elim
  ·cases qk
 ·exact H.elim
theorem jQ {t:TypeId} {l c:Value} (H:vMk (Jf P t) (tn P) (tb P) (tz P) l c K h):hw P (Instr.makeSlice t l c) K h:=by
 unfold vMk at H
 split at H
 ·rename_i e k l k' c he
  unfold Jf at he
  split at he
  ·rename_i e' hu
   simp only[Option.some.injEq]at he
   subst he
   unfold qS at H
   split at H
   ·rename_i n bytes z hn St hz
    split at H
    ·rename_i hc
     obtain⟨CD,h0,wu,Zvf,Ym⟩:=hc
     obtain⟨i0,TC⟩:∃i,P.info? e'=some i:=by
      unfold tn at hn
      cases hi:P.info? e' with
      | none=>rw[hi]at hn;cases hn
      | some i=>exact⟨i,rfl⟩
     have Rp:i0.bytes=bytes:=by unfold tb at St;rw[TC]at St;simpa using St
     have w1:IntKind.i64.wrap l=l:=IntWalk.i64_in l ⟨by omega,by omega⟩
     have w2:IntKind.i64.wrap c=c:=IntWalk.i64_in c ⟨by omega,by omega⟩
     have yE:¬((bytes:Int)*c>2 ^ 48):=by omega
     unfold Instr.makeSlice
     simp only[Zf,Zr hu,asInt,asIntOf,Zt,Y1 TC,w1,w2,Rp]
     have Pe:¬((decide (c<0)||decide ((bytes:Int)*c>2 ^ 48)||decide (l<0)||decide (l>c))=true):=by
      simp;omega
     rw[if_neg Pe]
     have Rq:∀{Q:Unit→Hp→Prop} (b:Nat) (g:Hp),Q () g→hw P (askRoom b) Q g:=fun {Q} b g q=>by
      unfold askRoom;split<;>exact q
     rw[Zf]
     refine Rq _ _ ?_
     rw[Zf,run_sizeOf hn]
     have fin:∀z':Array Value,(Array.range (c.toNat*n)).map (fun j=>z'[j%z'.size]!)=(XS c.toNat z).toArray→hw P (do
       let a ←newRow e' ((Array.range (c.toNat*n)).map (fun j=>z'[j%z'.size]!))
       pure (Value.slice (some a) l.toNat c.toNat)) K h:=by
      intro z' FO
      rw[FO]
      exact H
     split
     ·rename_i h0
      refine fin #[] ?_
      have:(XS c.toNat z).length=0:=by rw[TH,CD,h0]
      rw[List.eq_nil_of_length_eq_zero this,h0]
      simp
     ·rename_i h0
      obtain⟨v,hv,hr⟩:=MC hz
      rw[Zf,hr]
      refine fin v.cells ?_
      have:z≠[]:=by intro e;subst e;simp at CD;subst CD;simp at h0
      rw[hv,←CD]
      exact bC z this c.toNat
    ·exact H.elim
   ·exact H.elim
  ·cases he
 ·exact H.elim
theorem FQ {op:Op} (H:Wo P T op ty K F h):K0 P T ⟨none,op,ty, "", #[],none⟩ K F h:=by
 have lift:∀{s:Sem Value},hw P s K h→hw P (do pure (Next.value (←s))) (Xm P T K) h:=fun {s} H=>by rw[Zf];exact H
 unfold Wo at H
 split at H
 ·exact H
 ·exact H
 ·rename_i c a b
  show hw P (do pure (.value (if ←asBool (ev F c) then ev F a else ev F b))) (Xm P T K) h
  unfold IU at H
  split at H
  ·rename_i t ht
   rw[ht];cases t<;>exact H
  ·exact H.elim
 ·rename_i e
  refine lift ?_
  unfold jM tz at H
  split at H
  ·rename_i l hl
   cases hi:P.info? e with
   | none=>rw[hi]at hl;cases hl
   | some i=>
    rw[hi]at hl
    cases hz:i.zero with
    | none=>rw[Option.bind_some,hz]at hl;cases hl
    | some z=>
     rw[Option.bind_some,hz]at hl
     simp only[Option.map_some,Option.some.injEq]at hl
     subst hl
     simp only[Instr.alloc,zeroValue,Zf,Y1 hi,hz,newVar,newRow,newObj,Zt,hw]
     simpa using H
  ·exact H.elim
 ·rename_i e x
  refine lift ?_
  simp only[jM,R7]at H
  simp only[Instr.box,newVar,newRow,newObj,Zf,Zt]
  exact H
 ·exact lift (CU H)
 ·refine (?_:hw P (do Instr.storeAt _ _ _;pure Next.skip) (Xm P T K) h)
  rw[Zf]
  exact FK H
 ·exact lift (FL H)
 ·exact lift (jO H)
 ·rename_i x
  unfold CQ at H
  split at H
  ·rename_i a hx
   show hw P (match ev F x with|.pointer none|.nilIface|.nilFunc=>_|.func (.method name) first captured=>_|x=>_) _ h
   rw[hx];exact H
  ·rename_i f a b hx
   show hw P (match ev F x with|.pointer none|.nilIface|.nilFunc=>_|.func (.method name) first captured=>_|x=>_) _ h
   rw[hx];exact H
  ·exact H.elim
 ·exact lift H
 ·exact lift H
 ·exact lift H
 ·exact lift (Ig H)
 ·rename_i fn first captured
  refine lift ?_
  have e1:∀l:Array Operand,l.map (ev F)=(dM F l.toList).toArray:=fun l=>by rw[HY,←Array.toList_map]
  show hw P (Instr.makeFunc fn (first.map (ev F)) (captured.map (ev F))) K h
  rw[e1,e1];exact H
 ·rename_i f args ts
  exact CW (x:=f) (c:=⟨.value f,args,ts⟩) rfl rfl (by rw[HY];simp) H
 ·rename_i b args ts
  have e1:args.map (ev F)=(dM F args.toList).toArray:=by rw[HY,←Array.toList_map]
  unfold Sq at H
  rw[←e1]at H
  exact H
 ·exact lift (FN H)
 ·exact lift (Ih H)
 ·exact lift (dP H)
 ·exact lift (dQ H)
 ·exact lift (dR H)
 ·exact lift (jQ H)
 ·exact H
theorem Jd {o:Oper} (H:Wo P T o.op o.type K F h):K0 P T o K F h:=FQ H
def QE:List Oper→Env→Nat→Value
 | [],_,_=>undef
 | o :: _,F,0=>match o.dst with|some t=>F t|none=>undef
 | _ :: l,F,n+1=>QE l F n
def Xt (v:Value) (b:Bool) (A B:Prop):Prop:=match v with|.bool c=>if c=b then A else B|_=>B
def Pf (P:Program) (T:World) (ops:List Oper) (N:Env→Hp→Prop):List Oper→Env→Hp→Prop
 | [],F,h=>N F h
 | ⟨d,op,ty,_,_,none⟩ :: l,F,h=>Wo P T op ty (fun v h'=>Pf P T ops N l (Z2 F d v) h') F h
 | ⟨d,op,ty,_,_,some (j,b)⟩ :: l,F,h=>Xt (QE ops F j) b (Wo P T op ty (fun v h'=>Pf P T ops N l (Z2 F d v) h') F h) (Pf P T ops N l (Z2 F d undef) h)
theorem Ii (ops:List Oper) (F:Env):∀j,Q2 ops.toArray F j=match QE ops F j with|.bool b=>some b|_=>none:=by
 intro j
 unfold Q2
 rw[List.getElem?_toArray]
 induction ops generalizing j with
 | nil=>rfl
 | cons o l ih=>
  cases j with
  | zero=>simp only[List.getElem?_cons_zero,Option.bind_some,QE];cases o.dst<;>rfl
  | succ j=>simp only[List.getElem?_cons_succ,QE];exact ih j
theorem YP (ops:List Oper) (F:Env) (d:Option Tmp) (op:Op) (pos:String) (Q8:Array Edge) (j:Nat) (b:Bool) {A B:Prop} (H:Xt (QE ops F j) b A B) :
  (Z6 ops.toArray ⟨d,op,ty,pos,Q8,some (j,b)⟩ F=true∧A)∨(Z6 ops.toArray ⟨d,op,ty,pos,Q8,some (j,b)⟩ F=false∧B):=by
 unfold Z6 Region.wanted
 simp only[Ii]
 unfold Xt at H
 split at H
 ·rename_i c hc
  split at H
  ·rename_i H5;exact .inl ⟨by simp[H5],H⟩
  ·rename_i H5;exact .inr ⟨by simpa using H5,H⟩
 ·rename_i Yr
  refine .inr ⟨?_,H⟩
  cases hv:QE ops F j<;>first|rfl|exact (Yr _ hv).elim
theorem JT {op:Op} {K':Value→Hp→Prop} (hk:∀v h,K v h→K' v h) (H:Wo P T op ty K F h):K0 P T ⟨none,op,ty, "", #[],none⟩ K' F h:=RW hk (FQ H)
theorem Uy {ops:List Oper} {N:Env→Hp→Prop}:∀(l:List Oper) (F:Env) (h:Hp),Pf P T ops N l F h→dI P T ops.toArray N l F h
 | [],F,h,H=>H
 | ⟨d,op,ty,pos,Q8,none⟩ :: l,F,h,H=>by
  show (if Z6 ops.toArray _ F=true then _ else _)
  rw[if_pos (by rfl)]
  exact JT (fun v h' q=>Uy l _ _ q) H
 | ⟨d,op,ty,pos,Q8,some (j,b)⟩ :: l,F,h,H=>by
  show (if Z6 ops.toArray _ F=true then _ else _)
  rcases YP ops F d op pos Q8 j b H with⟨hw,H⟩|⟨hw,H⟩
  ·rw[if_pos hw]
   exact JT (fun v h' q=>Uy l _ _ q) H
  ·rw[hw,if_neg (by simp)]
   exact Uy l _ _ H
def Vm (P:Program) (T:World) (ops:List Oper) (S:Hp→Prop) (N:Env→Hp→Prop):List (Nat × Bool × Oper)→Env→Hp→Prop
 | [],F,h=>N F h
 | (_,true,⟨d,op,ty,_,_,none⟩) :: l,F,h=>∃v,(∀h',S h'→Wo P T op ty (fun v' On=>v'=v∧On=h') F h')∧Vm P T ops S N l (Z2 F d v) h
 | (_,false,⟨d,op,ty,_,_,none⟩) :: l,F,h=>Wo P T op ty (fun v h'=>S h'∧Vm P T ops S N l (Z2 F d v) h') F h
 | (_,true,⟨d,op,ty,_,_,some (j,b)⟩) :: l,F,h=>Xt (QE ops F j) b (∃v,(∀h',S h'→Wo P T op ty (fun v' On=>v'=v∧On=h') F h')∧Vm P T ops S N l (Z2 F d v) h) (Vm P T ops S N l (Z2 F d undef) h)
 | (_,false,⟨d,op,ty,_,_,some (j,b)⟩) :: l,F,h=>Xt (QE ops F j) b (Wo P T op ty (fun v h'=>S h'∧Vm P T ops S N l (Z2 F d v) h') F h) (Vm P T ops S N l (Z2 F d undef) h)
theorem Xo {ops:List Oper} {S:Hp→Prop} {N:Env→Hp→Prop}:∀(l:List (Nat × Bool × Oper)) (F:Env) (h:Hp),Vm P T ops S N l F h→RY P T ops.toArray S N l F h
 | [],F,h,H=>H
 | (i,true,⟨d,op,ty,pos,Q8,none⟩) :: l,F,h,H=>by
  show (if Z6 ops.toArray _ F=true then _ else _)
  rw[if_pos (by rfl)]
  obtain⟨v,hv,H⟩:=H
  exact⟨v,fun h' hs=>Jd (hv h' hs),Xo l _ _ H⟩
 | (i,false,⟨d,op,ty,pos,Q8,none⟩) :: l,F,h,H=>by
  show (if Z6 ops.toArray _ F=true then _ else _)
  rw[if_pos (by rfl)]
  exact JT (fun v h' q=>⟨q.1,Xo l _ _ q.2⟩) H
 | (i,true,⟨d,op,ty,pos,Q8,some (j,b)⟩) :: l,F,h,H=>by
  show (if Z6 ops.toArray _ F=true then _ else _)
  rcases YP ops F d op pos Q8 j b H with⟨hw,H⟩|⟨hw,H⟩
  ·rw[if_pos hw]
   obtain⟨v,hv,H⟩:=H
   exact⟨v,fun h' hs=>Jd (hv h' hs),Xo l _ _ H⟩
  ·rw[hw,if_neg (by simp)]
   exact Xo l _ _ H
 | (i,false,⟨d,op,ty,pos,Q8,some (j,b)⟩) :: l,F,h,H=>by
  show (if Z6 ops.toArray _ F=true then _ else _)
  rcases YP ops F d op pos Q8 j b H with⟨hw,H⟩|⟨hw,H⟩
  ·rw[if_pos hw]
   exact JT (fun v h' q=>⟨q.1,Xo l _ _ q.2⟩) H
  ·rw[hw,if_neg (by simp)]
   exact Xo l _ _ H
theorem VS.yF {n:Nat} {N:Env→Hp→Prop} {X:Nat→Env→Hp→Prop} {R:Env→Hp→Prop} {id:Nat} {ops:List Oper} (hm:P.follows .mixedOrders=true) (Jk:Vk n ops.toArray ((List.range ops.toArray.size).map fun i=>(i,true))=true)
  (H:Vm P T ops (fun h'=>h'=h) N (ops.map fun o=>(0,true,o)) F h):VS P n T (.region id ops.toArray true) N X R F h:=by
 refine VS.quiet hm Jk ?_
 have key:∀(l:List Oper) (k:Nat) (F:Env),(∀j,l[j]? = ops[k+j]?)→Vm P T ops (fun h'=>h'=h) N (l.map fun o=>(0,true,o)) F h →
   Vm P T ops (fun h'=>h'=h) N (Uh ops.toArray ((List.range' k l.length).map fun i=>(i,true))) F h:=by
  intro l
  induction l with
  | nil=>intro k F _ H;exact H
  | cons o l ih=>
   intro k F hl H
   have h0:ops[k]? = some o:=by simpa using (hl 0).symm
   have CE:∀j,l[j]? = ops[k+1+j]?:=fun j=>by have:=hl (j+1);simpa [Nat.add_assoc,Nat.add_comm 1 j] using this
   have e:Uh ops.toArray ((List.range' k (o :: l).length).map fun i=>(i,true))=(k,true,o) :: Uh ops.toArray ((List.range' (k+1) l.length).map fun i=>(i,true)):=by
    simp[Uh,List.range'_succ,h0]
   rw[e]
   obtain⟨d,op,ty,pos,Q8,g⟩:=o
   cases g with
   | none=>
    obtain⟨v,hv,H⟩:=H
    exact⟨v,hv,ih (k+1) _ CE H⟩
   | some jb=>
    obtain⟨j,b⟩:=jb
    simp only[List.map_cons,Vm]at H ⊢
    unfold Xt at *
    split at H
    ·split at H
     ·rename_i H5
      rw[if_pos H5]
      obtain⟨v,hv,H⟩:=H
      exact⟨v,hv,ih (k+1) _ CE H⟩
     ·rename_i H5
      rw[if_neg H5]
      exact ih (k+1) _ CE H
    ·exact ih (k+1) _ CE H
 have:=key ops 0 F (fun j=>by simp) H
 rw[List.range_eq_range']
 exact Xo _ _ _ this
def jR (v:Value) (A B:Prop):Prop:=match v with|.bool b=>if b=true then A else B|_=>False
def vc (P:Program) (n:Nat) (T:World):Code→(Env→Hp→Prop)→(Nat→Env→Hp→Prop)→(Env→Hp→Prop)→Env→Hp→Prop
 | .skip,N,_,_,F,h=>N F h
 | .ret,_,_,R,F,h=>R F h
 | .exit j,_,X,_,F,h=>X j F h
 | .seq a b,N,X,R,F,h=>vc P n T a (fun F h=>vc P n T b N X R F h) X R F h
 | .cond c a b,N,X,R,F,h=>jR (ev F c) (vc P n T a N X R F h) (vc P n T b N X R F h)
 | .block j c,N,X,R,F,h=>vc P n T c N (fun i F h=>if i=j then N F h else X i F h) R F h
 | .region _ ops false,N,_,_,F,h=>Pf P T ops.toList N ops.toList F h
 | c,N,X,R,F,h=>VS P n T c N X R F h
def codeOk (n:Nat):Code→Bool
 | .seq a b=>codeOk n a&&codeOk n b
 | .cond _ a b=>codeOk n a&&codeOk n b
 | .block _ c=>codeOk n c
 | .region _ ops false=>Nb n ops
 | _=>true
theorem X6 {n:Nat}:∀(c:Code) (N:Env→Hp→Prop) (X:Nat→Env→Hp→Prop) (R:Env→Hp→Prop) (F:Env) (h:Hp),codeOk n c=true→vc P n T c N X R F h→VS P n T c N X R F h:=by
 intro c
 induction c with
 | skip=>intro N X R F h _ H;exact VS.skip H
 | ret=>intro N X R F h _ H;exact VS.ret H
 | exit j=>intro N X R F h _ H;exact VS.exit H
 | seq a b iha ihb=>
  intro N X R F h Jk H
  simp only[codeOk,Bool.and_eq_true]at Jk
  exact VS.seq (VS.mono (iha _ _ _ _ _ Jk.1 H) (fun F h q=>ihb _ _ _ _ _ Jk.2 q) (fun _ _ _ q=>q) (fun _ _ q=>q))
 | cond c a b iha ihb=>
  intro N X R F h Jk H
  simp only[codeOk,Bool.and_eq_true]at Jk
  simp only[vc,jR]at H
  split at H
  ·rename_i t ht
   refine VS.cond ht (fun hb=>?_) (fun hb=>?_)
   ·rw[if_pos hb]at H;exact iha _ _ _ _ _ Jk.1 H
   ·rw[if_neg (by simp[hb])]at H;exact ihb _ _ _ _ _ Jk.2 H
  ·exact H.elim
 | block j c ih=>intro N X R F h Jk H;exact VS.block (ih _ _ _ _ _ Jk H)
 | region id ops draw=>
  intro N X R F h Jk H
  cases draw with
  | true=>exact H
  | false=>exact VS.region Jk (by simpa using Uy _ _ _ H)
 | _=>intro N X R F h _ H;exact H
theorem Zd.qV {f:FuncId} {fn:Func} {c:Code} {l:List ResultVar} {args:List Value} {Q:Value→Hp→Prop} (hf:P.funcs[f]? = some fn) (hb:fn.body=some c)
  (hl:fn.results=l.toArray) (hn:Nat.ble args.length fn.ntmps=true) (Jk:codeOk fn.ntmps c=true)
  (H:vc P fn.ntmps T c (fun F h'=>MY P l F Q h') (fun _ _ _=>False) (fun F h'=>MY P l F Q h') (KZ args 0) h) :
  Zd P T f args.toArray h Q:=
 Zd.Mz hf hb hl (by simpa using hn) (by simpa using X6 _ _ _ _ _ _ Jk H)
end
section
variable {P:Program} {T:World} {K:Value→Hp→Prop} {F:Env} {h:Hp} {ty:TypeId}
def qW (P:Program) (T:World) (ops:List Oper) (N:Env→Hp→Prop) (l:List Oper) (F:Env) (d:Option Tmp):Value→Hp→Prop:=fun v h=>Pf P T ops N l (Z2 F d v) h
theorem jS {ops l:List Oper} {N:Env→Hp→Prop} {d:Option Tmp} {v:Value}:qW P T ops N l F d v h=Pf P T ops N l (Z2 F d v) h:=rfl
theorem jT {ops:List Oper} {N:Env→Hp→Prop}:Pf P T ops N [] F h=N F h:=rfl
theorem CX {ops l:List Oper} {N:Env→Hp→Prop} {d:Option Tmp} {op:Op} {pos:String} {Q8:Array Edge} :
  Pf P T ops N (⟨d,op,ty,pos,Q8,none⟩ :: l) F h=Wo P T op ty (qW P T ops N l F d) F h:=rfl
def CY (P:Program) (T:World) (ops:List Oper) (N:Env→Hp→Prop) (l:List Oper) (F:Env) (d:Option Tmp) (op:Op) (ty:TypeId) (v:Value) (b:Bool) (h:Hp):Prop:=
 Xt v b (Wo P T op ty (qW P T ops N l F d) F h) (Pf P T ops N l (Z2 F d undef) h)
theorem CZ {ops l:List Oper} {N:Env→Hp→Prop} {d:Option Tmp} {op:Op} {pos:String} {Q8:Array Edge} {j:Nat} {b:Bool} :
  Pf P T ops N (⟨d,op,ty,pos,Q8,some (j,b)⟩ :: l) F h=CY P T ops N l F d op ty (QE ops F j) b h:=rfl
theorem FT {ops l:List Oper} {N:Env→Hp→Prop} {d:Option Tmp} {op:Op} {b c:Bool} :
  CY P T ops N l F d op ty (.bool c) b h=if c=b then Wo P T op ty (qW P T ops N l F d) F h else Pf P T ops N l (Z2 F d undef) h:=rfl
def Zcx (P:Program) (n:Nat) (T:World) (b:Code) (N:Env→Hp→Prop) (X:Nat→Env→Hp→Prop) (R:Env→Hp→Prop):Env→Hp→Prop:=fun F h=>vc P n T b N X R F h
def Zcy (j:Nat) (N:Env→Hp→Prop) (X:Nat→Env→Hp→Prop):Nat→Env→Hp→Prop:=fun i F h=>if i=j then N F h else X i F h
def jU:Nat→Env→Hp→Prop:=fun _ _ _=>False
def qX (P:Program) (l:List ResultVar) (Q:Value→Hp→Prop):Env→Hp→Prop:=fun F h=>MY P l F Q h
def wy (P:Program) (n:Nat) (T:World) (v:Value) (a b:Code) (N:Env→Hp→Prop) (X:Nat→Env→Hp→Prop) (R:Env→Hp→Prop) (F:Env) (h:Hp):Prop:=
 jR v (vc P n T a N X R F h) (vc P n T b N X R F h)
section
variable {n:Nat} {N:Env→Hp→Prop} {X:Nat→Env→Hp→Prop} {R:Env→Hp→Prop}
theorem jV {b:Code}:Zcx P n T b N X R F h=vc P n T b N X R F h:=rfl
theorem jW {i j:Nat}:Zcy j N X i F h=if i=j then N F h else X i F h:=rfl
theorem dS {i:Nat}:jU i F h=False:=rfl
theorem jX {l:List ResultVar} {Q:Value→Hp→Prop}:qX P l Q F h=MY P l F Q h:=rfl
theorem qY:vc P n T .skip N X R F h=N F h:=rfl
theorem yG:vc P n T .ret N X R F h=R F h:=rfl
theorem qZ {j:Nat}:vc P n T (.exit j) N X R F h=X j F h:=rfl
theorem yH {a b:Code}:vc P n T (.seq a b) N X R F h=vc P n T a (Zcx P n T b N X R) X R F h:=rfl
theorem rh {c:Operand} {a b:Code}:vc P n T (.cond c a b) N X R F h=wy P n T (ev F c) a b N X R F h:=rfl
theorem jY {j:Nat} {c:Code}:vc P n T (.block j c) N X R F h=vc P n T c N (Zcy j N X) R F h:=rfl
theorem dU {id:Nat} {l:List Oper}:vc P n T (.region id l.toArray false) N X R F h=Pf P T l N l F h:=rfl
theorem rn {id:Nat} {l:Array Oper}:vc P n T (.region id l true) N X R F h=VS P n T (.region id l true) N X R F h:=rfl
theorem rq {c:Code}:vc P n T (.loop c) N X R F h=VS P n T (.loop c) N X R F h:=rfl
theorem C0 {a b:Code} {t:Bool}:wy P n T (.bool t) a b N X R F h=if t=true then vc P n T a N X R F h else vc P n T b N X R F h:=rfl
end
theorem Zd.Zi {f:FuncId} {fn:Func} {c:Code} {l:List ResultVar} {args:List Value} {Q:Value→Hp→Prop} (hf:P.funcs[f]? = some fn) (hb:fn.body=some c)
  (hl:fn.results=l.toArray) (hn:Nat.ble args.length fn.ntmps=true) (Jk:codeOk fn.ntmps c=true)
  (H:vc P fn.ntmps T c (qX P l Q) jU (qX P l Q) (KZ args 0) h):Zd P T f args.toArray h Q:=Zd.qV hf hb hl hn Jk H
def Yy (I:Env→Hp→Prop) (μ:Env→Hp→Nat) (m:Nat):Env→Hp→Prop:=fun F h=>I F h∧μ F h<m
theorem VS.ZU {n:Nat} {N:Env→Hp→Prop} {X:Nat→Env→Hp→Prop} {R:Env→Hp→Prop} {c:Code} (I:Env→Hp→Prop) (μ:Env→Hp→Nat) (Jk:codeOk n c=true) (h0:I F h)
  (round:∀F h,I F h→vc P n T c (Yy I μ (μ F h)) X R F h):VS P n T (.loop c) N X R F h:=
 VS.loop I μ h0 fun F h hI=>X6 _ _ _ _ _ _ Jk (round F h hI)
theorem Zd.use {f:FuncId} {args:Array Value} {Q:Value→Hp→Prop} (c:Zd P T f args h Q) (H:∀v h',Q v h'→K v h'):Zd P T f args h K:=c.mono H
theorem Zd.pure {f:FuncId} {args:Array Value} {r:Value} (c:Zd P T f args h fun v h'=>v=r∧h'=h) (H:K r h):Zd P T f args h K:=
 c.mono fun _ _ ⟨e1,e2⟩=>by subst e1;subst e2;exact H
def ap (B:Value→Prop) (v:Value):Prop:=B v
def Su (v:Value) (h:Hp):Value→Hp→Prop:=fun v' h'=>v'=v∧h'=h
def Pg (P:Program) (T:World) (ops:List Oper) (N:Env→Hp→Prop):List Oper→Env→Hp→Prop
 | [],F,h=>N F h
 | ⟨d,op,ty,_,_,none⟩ :: l,F,h=>∃v,Wo P T op ty (Su v h) F h∧Pg P T ops N l (Z2 F d v) h
 | ⟨d,op,ty,_,_,some (j,b)⟩ :: l,F,h=>Xt (QE ops F j) b (∃v,Wo P T op ty (Su v h) F h∧Pg P T ops N l (Z2 F d v) h) (Pg P T ops N l (Z2 F d undef) h)
theorem JU {ops:List Oper} {N:Env→Hp→Prop}:∀(l:List Oper) (F:Env),Pg P T ops N l F h→Vm P T ops (fun h'=>h'=h) N (l.map fun o=>(0,true,o)) F h
 | [],_,H=>H
 | ⟨d,op,ty,pos,Q8,none⟩ :: l,F,H=>by
  obtain⟨v,hv,H⟩:=H
  exact⟨v,fun h' e=>by subst e;exact hv,JU l _ H⟩
 | ⟨d,op,ty,pos,Q8,some (j,b)⟩ :: l,F,H=>by
  simp only[Pg,Xt]at H
  simp only[List.map_cons,Vm,Xt]
  split at H
  ·split at H
   ·rename_i H5
    rw[if_pos H5]
    obtain⟨v,hv,H⟩:=H
    exact⟨v,fun h' e=>by subst e;exact hv,JU l _ H⟩
   ·rename_i H5
    rw[if_neg H5]
    exact JU l _ H
  ·exact JU l _ H
theorem VS.q {n:Nat} {N:Env→Hp→Prop} {X:Nat→Env→Hp→Prop} {R:Env→Hp→Prop} {id:Nat} {ops:List Oper} (hm:P.follows .mixedOrders=true) (Jk:Vk n ops.toArray ((List.range ops.toArray.size).map fun i=>(i,true))=true)
  (H:Pg P T ops N ops F h):VS P n T (.region id ops.toArray true) N X R F h:=VS.yF hm Jk (JU _ _ H)
def qK (P:Program) (T:World) (ops:List Oper) (N:Env→Hp→Prop) (l:List Oper) (F:Env) (d:Option Tmp) (h:Hp):Value→Prop:=fun v=>Pg P T ops N l (Z2 F d v) h
def H6 (P:Program) (T:World) (op:Op) (ty:TypeId) (B:Value→Prop) (F:Env) (h:Hp):Prop:=∃v,Wo P T op ty (Su v h) F h∧ap B v
def C1 (P:Program) (T:World) (ops:List Oper) (N:Env→Hp→Prop) (l:List Oper) (F:Env) (d:Option Tmp) (op:Op) (ty:TypeId) (v:Value) (b:Bool) (h:Hp):Prop:=
 Xt v b (H6 P T op ty (qK P T ops N l F d h) F h) (Pg P T ops N l (Z2 F d undef) h)
theorem jZ {ops:List Oper} {N:Env→Hp→Prop}:Pg P T ops N [] F h=N F h:=rfl
theorem C2 {ops l:List Oper} {N:Env→Hp→Prop} {d:Option Tmp} {op:Op} {pos:String} {Q8:Array Edge} :
  Pg P T ops N (⟨d,op,ty,pos,Q8,none⟩ :: l) F h=H6 P T op ty (qK P T ops N l F d h) F h:=rfl
theorem C3 {ops l:List Oper} {N:Env→Hp→Prop} {d:Option Tmp} {op:Op} {pos:String} {Q8:Array Edge} {j:Nat} {b:Bool} :
  Pg P T ops N (⟨d,op,ty,pos,Q8,some (j,b)⟩ :: l) F h=C1 P T ops N l F d op ty (QE ops F j) b h:=rfl
theorem FU {ops l:List Oper} {N:Env→Hp→Prop} {d:Option Tmp} {op:Op} {b c:Bool} :
  C1 P T ops N l F d op ty (.bool c) b h=if c=b then H6 P T op ty (qK P T ops N l F d h) F h else Pg P T ops N l (Z2 F d undef) h:=rfl
theorem yI {ops l:List Oper} {N:Env→Hp→Prop} {d:Option Tmp} {v:Value}:qK P T ops N l F d h v=Pg P T ops N l (Z2 F d v) h:=rfl
def qR (x:Option Value) (B:Value→Prop):Prop:=match x with|some v=>ap B v|none=>False
theorem ru {v:Value} {B:Value→Prop}:qR (some v) B=B v:=rfl
theorem jj {v:Value} {B:Value→Prop}:(∃u,Su u h v h∧ap B u)=B v:=by
 apply propext;constructor
 ·rintro⟨u,⟨e,_⟩,H⟩;subst e;exact H
 ·intro H;exact⟨v,⟨rfl,rfl⟩,H⟩
section
variable {B:Value→Prop}
theorem j0 {x:Operand}:H6 P T (.move x) ty B F h=B (ev F x):=jj
theorem C4 {x:Operand}:H6 P T (.assign x) ty B F h=B (ev F x):=jj
def j1 (c a b:Value) (B:Value→Prop):Prop:=match c with|.bool t=>B (if t then a else b)|_=>False
theorem C6 {t:Bool} {a b:Value}:j1 (.bool t) a b B=B (if t=true then a else b):=rfl
theorem j2 {c a b:Operand}:H6 P T (.pick c a b) ty B F h=j1 (ev F c) (ev F a) (ev F b) B:=by
 show (∃u,IU _ _ _ (Su u h) h∧ap B u)=_
 unfold IU j1
 cases ev F c<;>first|exact jj|simp
def bD (s:Option Bool) (n:Option Nat) (p:Value) (B:Value→Prop) (h:Hp):Prop:=
 match p with
 | .pointer (some a)=>match s,n with
  | some false,_=>qR (hc h a) B
  | some true,some n=>qR ((rd h a n).map fun l=>.agg l.toArray) B
  | _,_=>False
 | _=>False
theorem dV {n:Option Nat} {a:Addr}:bD (some false) n (.pointer (some a)) B h=qR (hc h a) B:=rfl
theorem C7 {n:Nat} {a:Addr}:bD (some true) (some n) (.pointer (some a)) B h=qR ((rd h a n).map fun l=>.agg l.toArray) B:=rfl
theorem j3 {t:TypeId} {x:Operand}:H6 P T (.load t x) ty B F h=bD (ta P t) (tn P t) (ev F x) B h:=by
 show (∃u,Pa _ _ _ (Su u h) h∧ap B u)=_
 unfold Pa bD
 cases ev F x with
 | pointer a=>
  cases a with
  | none=>simp
  | some a=>
   simp only
   rcases ta P t with _|b
   ·simp
   ·cases b
    ·simp only[Mg,qR]
     cases hc h a with
     | none=>simp
     | some v=>exact jj
    ·rcases tn P t with _|n
     ·simp
     ·simp only[MZ,qR]
      cases rd h a n with
      | none=>simp
      | some v=>exact jj
 | _=>simp
def C8 (f:Option Nat) (p:Value) (B:Value→Prop):Prop:=match f,p with|some o,.pointer (some a)=>B (.pointer (some (a.add o)))|_,_=>False
theorem FV {o b f:Nat}:C8 (some o) (.pointer (some ⟨b,f,none⟩)) B=B (.pointer (some ⟨b,f+o,none⟩)):=by
 show B (.pointer (some (Addr.add _ _)))=_;rw[YQ]
theorem dW {t:TypeId} {x:Operand} {i:Nat}:H6 P T (.fieldAddr t x i) ty B F h=C8 (tf P t i) (ev F x) B:=by
 show (∃u,Rl _ _ (Su u h) h∧ap B u)=_
 unfold Rl C8
 rcases tf P t i with _|o
 ·simp
 ·cases ev F x with
  | pointer a=>cases a with
   | none=>simp
   | some a=>exact jj
  | _=>simp
def qIx (arr:Option (Nat × TypeId)) (sl:Option TypeId) (n:TypeId→Option Nat) (p i:Value) (B:Value→Prop):Prop:=
 match i with
 | .int _ i=>(match arr,sl,p with
  | some (len,e),none,.pointer (some a)=>(match n e with
   | some n=>if 0≤i∧i<(len:Int) then B (.pointer (some (a.add (i.toNat*n)))) else False
   | none=>False)
  | none,some e,.slice (some a) len _=>(match n e with
   | some n=>if 0≤i∧i<(len:Int) then B (.pointer (some (a.add (i.toNat*n)))) else False
   | none=>False)
  | _,_,_=>False)
 | _=>False
def rD (m:Option Nat) (len:Nat) (a:Addr) (i:Int) (B:Value→Prop):Prop:=
 match m with|some m=>if 0≤i∧i<(len:Int) then B (.pointer (some (a.add (i.toNat*m)))) else False|none=>False
theorem rE {len:Nat} {e:TypeId} {n:TypeId→Option Nat} {a:Addr} {k:IntKind} {i:Int}:qIx (some (len,e)) none n (.pointer (some a)) (.int k i) B=rD (n e) len a i B:=rfl
theorem dX {len cap:Nat} {e:TypeId} {n:TypeId→Option Nat} {a:Addr} {k:IntKind} {i:Int}:qIx none (some e) n (.slice (some a) len cap) (.int k i) B=rD (n e) len a i B:=rfl
theorem dY {m len b f:Nat} {i:Int}:rD (some m) len ⟨b,f,none⟩ i B=if 0≤i∧i<(len:Int) then B (.pointer (some ⟨b,f+i.toNat*m,none⟩)) else False:=by
 simp only[rD,YQ]
theorem Rr {c:Prop} [Decidable c] {A:Value→Prop}:(∃u,(if c then A u else False)∧ap B u)=if c then (∃u,A u∧ap B u) else False:=by
 split<;>simp
theorem yJ {t:TypeId} {x i:Operand}:H6 P T (.indexAddr t x i) ty B F h=qIx (Yu P t) (Jf P t) (tn P) (ev F x) (ev F i) B:=by
 show (∃u,wo _ _ _ _ _ (Su u h) h∧ap B u)=_
 unfold wo qIx
 cases ev F i with
 | int k i=>
  simp only
  rcases Yu P t with _|⟨len,e⟩
  ·rcases Jf P t with _|e
   ·simp
   ·cases ev F x with
    | slice a len cap=>
     cases a with
     | none=>simp
     | some a=>
      simp only
      rcases tn P e with _|n
      ·simp
      ·simp only;rw[Rr,jj]
    | _=>simp
  ·rcases Jf P t with _|e'
   ·cases ev F x with
    | pointer a=>
     cases a with
     | none=>simp
     | some a=>
      simp only
      rcases tn P e with _|n
      ·simp
      ·simp only;rw[Rr,jj]
    | _=>simp
   ·simp
 | _=>simp
def Ph (v:Value) (i:Nat) (B:Value→Prop):Prop:=match v with|.tuple vs=>qR (vs[i]?) B|_=>False
theorem Lb {l:List Value} {i:Nat}:Ph (.tuple l.toArray) i B=qR (nth l i) B:=by simp[Ph,Yj]
theorem FW {x:Operand} {i:Nat}:H6 P T (.extract x i) ty B F h=Ph (ev F x) i B:=by
 show (∃u,Q6 _ _ (Su u h) h∧ap B u)=_
 unfold Q6 Ph
 cases ev F x with
 | tuple vs=>
  simp only[Mg,qR]
  cases vs[i]? with
  | none=>simp
  | some v=>exact jj
 | _=>simp
def yK (v:Value) (B:Value→Prop):Prop:=match v with|.pointer (some a)=>B (.pointer (some a))|.func (.func f) x y=>B (.func (.func f) x y)|_=>False
theorem H7 {a:Addr}:yK (.pointer (some a)) B=B (.pointer (some a)):=rfl
theorem rF {x:Operand}:H6 P T (.nilCheck x) ty B F h=yK (ev F x) B:=by
 show (∃u,CQ _ (Su u h) h∧ap B u)=_
 unfold CQ yK
 cases ev F x with
 | pointer a=>cases a with
  | none=>simp
  | some a=>exact jj
 | func f a b=>cases f with
  | func f=>exact jj
  | _=>simp
 | _=>simp
theorem rG {op:BinOp} {t t':TypeId} {x y:Operand}:H6 P T (.binOp op t x y t') ty B F h = ∃u,YW P op t x y (ev F x) (ev F y) (Su u h) h∧ap B u:=rfl
theorem yL {op:UnOp} {t:TypeId} {x:Operand}:H6 P T (.unOp op t x) ty B F h = ∃u,vUn P op (ev F x) (Su u h) h∧ap B u:=rfl
theorem j4 {s d:TypeId} {x:Operand}:H6 P T (.convert s d x) ty B F h = ∃u,Pb P s d (ev F x) (Su u h) h∧ap B u:=rfl
theorem yM {b:Builtin} {args:Array Operand} {ts:Array TypeId}:H6 P T (.call ⟨.builtin b,args,ts⟩) ty B F h =
  ∃u,Sq P T b ts ty (args.map fun|.const _=>true|_=>false) (dM F args.toList) (Su u h) h∧ap B u:=rfl
end
theorem yN {t:Nat}:ev F (.tmp t)=F t:=rfl
theorem j5 {v:Value}:ev F (.const v)=v:=rfl
theorem dZ {g:Nat}:ev F (.global g)=.pointer (some ⟨g,0,none⟩):=rfl
theorem rH {g:Nat}:ev F (.func g)=.func (.func g) #[] #[]:=rfl
theorem Zh {d:Nat} {v:Value} {t:Nat}:Z2 F (some d) v t=if t=d then v else F t:=rfl
theorem eh {v:Value}:Z2 F none v=F:=rfl
theorem rI {d:Nat} {v:Value} {t:Nat}:upd F d v t=if t=d then v else F t:=rfl
theorem C9 {t:Bool} {a b:Value}:IU (.bool t) a b K h=K (if t=true then a else b) h:=rfl
theorem eu {l:List Value} {t:TypeId}:jM (some l) t K h=K (.pointer (some ⟨h.size,0,none⟩)) (h.push (.cells l.toArray t)):=rfl
theorem ew {v:Value}:Mg (some v) K h=K v h:=rfl
theorem ey {l:List Value}:MZ (some l) K h=K (.agg l.toArray) h:=rfl
theorem IX {n:Option Nat} {a:Addr}:Pa (some false) n (.pointer (some a)) K h=Mg (hc h a) K h:=rfl
theorem Lc {n:Nat} {a:Addr}:Pa (some true) (some n) (.pointer (some a)) K h=MZ (rd h a n) K h:=rfl
theorem j6 {h':Hp}:bm (some h') K=K undef h':=rfl
theorem Ba {n:Nat} {a:Addr} {k:IntKind} {i:Int}:Ui (some n) (.pointer (some a)) (.int k i) K h=if n=1 then bm (Jn h a (.int k i)) K else False:=rfl
theorem FX {n:Nat} {a:Addr} {b:Bool}:Ui (some n) (.pointer (some a)) (.bool b) K h=if n=1 then bm (Jn h a (.bool b)) K else False:=rfl
theorem H8 {n:Nat} {a:Addr} {p:Option Addr} {l c:Nat}:Ui (some n) (.pointer (some a)) (.slice p l c) K h=if n=1 then bm (Jn h a (.slice p l c)) K else False:=rfl
theorem Ij {n:Nat} {a:Addr} {s:ByteArray}:Ui (some n) (.pointer (some a)) (.string s) K h=if n=1 then bm (Jn h a (.string s)) K else False:=rfl
theorem Ld {n:Nat} {a:Addr} {p:Option Addr}:Ui (some n) (.pointer (some a)) (.pointer p) K h=if n=1 then bm (Jn h a (.pointer p)) K else False:=rfl
theorem Bb {n:Nat} {a:Addr} {p:Option Nat}:Ui (some n) (.pointer (some a)) (.map p) K h=if n=1 then bm (Jn h a (.map p)) K else False:=rfl
theorem FY {n:Nat} {a:Addr} {f:Fn} {x y:Array Value}:Ui (some n) (.pointer (some a)) (.func f x y) K h=if n=1 then bm (Jn h a (.func f x y)) K else False:=rfl
theorem Le {n:Nat} {a:Addr}:Ui (some n) (.pointer (some a)) .nilFunc K h=if n=1 then bm (Jn h a .nilFunc) K else False:=rfl
theorem Bc {n:Nat} {a:Addr} {l:List Value}:Ui (some n) (.pointer (some a)) (.agg l.toArray) K h=if n=l.length then bm (wr h a l) K else False:=rfl
theorem FZ {o b f:Nat}:Rl (some o) (.pointer (some ⟨b,f,none⟩)) K h=K (.pointer (some ⟨b,f+o,none⟩)) h:=by
 show K (.pointer (some (Addr.add _ _))) h=_;rw[YQ]
def rK (m:Option Nat) (len:Nat) (a:Addr) (i:Int) (K:Value→Hp→Prop) (h:Hp):Prop:=
 match m with|some m=>if 0≤i∧i<(len:Int) then K (.pointer (some (a.add (i.toNat*m)))) h else False|none=>False
theorem rL {len:Nat} {e:TypeId} {n:TypeId→Option Nat} {a:Addr} {k:IntKind} {i:Int} :
  wo (some (len,e)) none n (.pointer (some a)) (.int k i) K h=rK (n e) len a i K h:=rfl
theorem eB {len cap:Nat} {e:TypeId} {n:TypeId→Option Nat} {a:Addr} {k:IntKind} {i:Int} :
  wo none (some e) n (.slice (some a) len cap) (.int k i) K h=rK (n e) len a i K h:=rfl
theorem eE {m len b f:Nat} {i:Int}:rK (some m) len ⟨b,f,none⟩ i K h=if 0≤i∧i<(len:Int) then K (.pointer (some ⟨b,f+i.toNat*m,none⟩)) h else False:=by
 simp only[rK,YQ]
theorem Lf {l:List Value} {i:Nat}:Q6 (.tuple l.toArray) i K h=Mg (nth l i) K h:=by simp[Q6,Yj]
theorem H9 {a:Addr}:CQ (.pointer (some a)) K h=K (.pointer (some a)) h:=rfl
theorem eG {f:FuncId} {x y:Array Value}:CQ (.func (.func f) x y) K h=K (.func (.func f) x y) h:=rfl
theorem Bd {f:FuncId} {l:List Value} (hg:goes P f=true):M0 P T (.func (.func f) #[] #[]) l K h=Zd P T f l.toArray h K:=by
 simp only[M0,hg,↓reduceIte]
 simp
theorem j7 {t:TypeId} {x y:Operand} {k:IntKind} {a b:Int}:YW P .add t x y (.int k a) (.int k b) K h=K (.int k (k.wrap (a+b))) h:=by
 simp[YW,binOp,Op.intArith,Zt,eqGuard]
theorem j8 {t:TypeId} {x y:Operand} {k:IntKind} {a b:Int}:YW P .sub t x y (.int k a) (.int k b) K h=K (.int k (k.wrap (a-b))) h:=by
 simp[YW,binOp,Op.intArith,Zt,eqGuard]
theorem j9 {t:TypeId} {x y:Operand} {k:IntKind} {a b:Int}:YW P .mul t x y (.int k a) (.int k b) K h=K (.int k (k.wrap (a*b))) h:=by
 simp[YW,binOp,Op.intArith,Zt,eqGuard]
theorem kf {t:TypeId} {x y:Operand} {k:IntKind} {a b:Int}:YW P .quo t x y (.int k a) (.int k b) K h=if b=0 then False else K (.int k (k.wrap (a.tdiv b))) h:=by
 simp only[YW,binOp,Op.intDiv,Zf,eqGuard]
 by_cases hb:b=0
 ·subst hb;simp[runtimePanic,goPanic,Zf,hw,Zt,program]
 ·simp[hb,Zt]
theorem kh {t:TypeId} {x y:Operand} {k:IntKind} {a b:Int}:YW P .rem t x y (.int k a) (.int k b) K h=if b=0 then False else K (.int k (a.tmod b)) h:=by
 simp only[YW,binOp,Op.intDiv,Zf,eqGuard]
 by_cases hb:b=0
 ·subst hb;simp[runtimePanic,goPanic,Zf,hw,Zt,program]
 ·simp[hb,Zt]
def Z8 (op:BinOp) (k:IntKind) (a b:Int):Int:=
 let x:=BitVec.ofInt k.bits a
 let y:=BitVec.ofInt k.bits b
 k.wrap (match op with|.and=>x &&& y|.or=>x ||| y|.xor=>x ^^^ y|_=>x &&& ~~~y).toNat
theorem ki {t:TypeId} {x y:Operand} {k:IntKind} {a b:Int}:YW P .and t x y (.int k a) (.int k b) K h=K (.int k (Z8 .and k a b)) h:=by
 simp[YW,binOp,Op.intBits,Zt,eqGuard,Z8]
theorem rM {t:TypeId} {x y:Operand} {k:IntKind} {a b:Int}:YW P .or t x y (.int k a) (.int k b) K h=K (.int k (Z8 .or k a b)) h:=by
 simp[YW,binOp,Op.intBits,Zt,eqGuard,Z8]
theorem kj {t:TypeId} {x y:Operand} {k:IntKind} {a b:Int}:YW P .xor t x y (.int k a) (.int k b) K h=K (.int k (Z8 .xor k a b)) h:=by
 simp[YW,binOp,Op.intBits,Zt,eqGuard,Z8]
theorem F0 {t:TypeId} {x y:Operand} {k:IntKind} {a b:Int}:YW P .andNot t x y (.int k a) (.int k b) K h=K (.int k (Z8 .andNot k a b)) h:=by
 simp[YW,binOp,Op.intBits,Zt,eqGuard,Z8]
def Yz (k:IntKind) (a b:Int):Int:=k.wrap (a*2 ^ min b.toNat k.bits)
def Xa (k:IntKind) (a b:Int):Int:=a.fdiv (2 ^ min b.toNat k.bits)
theorem ko {t:TypeId} {x y:Operand} {k k':IntKind} {a b:Int}:YW P .shl t x y (.int k a) (.int k' b) K h=if b<0 then False else K (.int k (Yz k a b)) h:=by
 simp only[YW,binOp,Op.shift,Zf,eqGuard]
 by_cases hb:b<0
 ·simp[hb,runtimePanic,goPanic,Zf,hw,Zt,program]
 ·simp[hb,Zt,Yz]
theorem kq {t:TypeId} {x y:Operand} {k k':IntKind} {a b:Int}:YW P .shr t x y (.int k a) (.int k' b) K h=if b<0 then False else K (.int k (Xa k a b)) h:=by
 simp only[YW,binOp,Op.shift,Zf,eqGuard]
 by_cases hb:b<0
 ·simp[hb,runtimePanic,goPanic,Zf,hw,Zt,program]
 ·simp[hb,Zt,Xa]
theorem kr {t:TypeId} {x y:Operand} {k:IntKind} {a b:Int}:YW P .eql t x y (.int k a) (.int k b) K h=K (.bool (decide (a=b))) h:=by
 simp[YW,binOp,Op.intCmp,Zt,eqGuard];rfl
theorem ku {t:TypeId} {x y:Operand} {k:IntKind} {a b:Int}:YW P .neq t x y (.int k a) (.int k b) K h=K (.bool (decide (a≠b))) h:=by
 simp[YW,binOp,Op.intCmp,Zt,eqGuard]
 have:(a != b) = !decide (a=b):=by rfl
 rw[this]
theorem kv {t:TypeId} {x y:Operand} {k:IntKind} {a b:Int}:YW P .lss t x y (.int k a) (.int k b) K h=K (.bool (decide (a<b))) h:=by
 simp[YW,binOp,Op.intCmp,Zt,eqGuard]
theorem ky {t:TypeId} {x y:Operand} {k:IntKind} {a b:Int}:YW P .leq t x y (.int k a) (.int k b) K h=K (.bool (decide (a≤b))) h:=by
 simp[YW,binOp,Op.intCmp,Zt,eqGuard]
theorem kA {t:TypeId} {x y:Operand} {k:IntKind} {a b:Int}:YW P .gtr t x y (.int k a) (.int k b) K h=K (.bool (decide (b<a))) h:=by
 simp[YW,binOp,Op.intCmp,Zt,eqGuard]
theorem kC {t:TypeId} {x y:Operand} {k:IntKind} {a b:Int}:YW P .geq t x y (.int k a) (.int k b) K h=K (.bool (decide (b≤a))) h:=by
 simp[YW,binOp,Op.intCmp,Zt,eqGuard]
theorem rN {b:Bool}:vUn P .not (.bool b) K h=K (.bool (!b)) h:=rfl
theorem rO {k:IntKind} {a:Int}:vUn P .neg (.int k a) K h=K (.int k (k.wrap (0-a))) h:=rfl
theorem rP {k:IntKind} {a:Int}:vUn P .xor (.int k a) K h=K (.int k (Z8 .xor k (if k.signed then -1 else k.max) a)) h:=rfl
def kD (d:Option IntKind) (a:Int) (K:Value→Hp→Prop) (h:Hp):Prop:=match d with|some k=>K (.int k (k.wrap a)) h|none=>False
theorem F6 {k:IntKind} {a:Int}:kD (some k) a K h=K (.int k (k.wrap a)) h:=rfl
theorem eH {s d:TypeId} {j:IntKind} {a:Int} (hs:(Ia P s).isSome=true) (hd:(Ia P d).isSome=true):Pb P s d (.int j a) K h=kD (Ia P d) a K h:=by
 unfold Ia at hd hs
 split at hd
 ·rename_i k1 h1
  split at hs
  ·rename_i k2 h2
   simp only[Pb,convert,Zf,Zr h1,Zr h2]
   unfold Ia
   rw[h1]
   rfl
  ·cases hs
 ·cases hd
theorem eI {t:TypeId} {x y:Operand} {a b:ByteArray}:YW P .eql t x y (.string a) (.string b) K h=K (.bool (a.toList == b.toList)) h:=by
 simp[YW,binOp,Op.stringOp,Zt,eqGuard]
theorem eJ {t:TypeId} {x y:Operand} {a b:ByteArray}:YW P .neq t x y (.string a) (.string b) K h=K (.bool (!(a.toList == b.toList))) h:=by
 simp[YW,binOp,Op.stringOp,Zt,eqGuard]
theorem Ga {cs:Array Bool} {t:TypeId} {p:Option Addr} {l c:Nat} (ht:(Jf P t).isSome=true) :
  Sq P T .len #[t] ty cs [.slice p l c] K h=K (.int .i64 l) h:=by
 unfold Jf at ht
 split at ht
 ·rename_i e' hu
  simp[Sq,builtin,Builtin.len_,Zf,Zt,Zr hu,Xm,goInt]
 ·cases ht
theorem eK {t:TypeId} (h:Q4 P t=true):P.underlying t=some .string:=by
 unfold Q4 at h;split at h
 ·assumption
 ·cases h
theorem Ik {cs:Array Bool} {t:TypeId} {s:ByteArray} (ht:Q4 P t=true) :
  Sq P T .len #[t] ty cs [.string s] K h=K (.int .i64 s.size) h:=by
 simp[Sq,builtin,Builtin.len_,Zf,Zt,Zr (eK ht),Xm,goInt]
theorem rQ {ts:Array TypeId} {cs:Array Bool} {k k':IntKind} {a b:Int}:Sq P T .min ts ty cs [.int k a,.int k' b] K h=K (.int k (if b<a then b else a)) h:=by
 simp[Sq,builtin,Builtin.min_,Builtin.min2,Zt,Xm]
theorem rR {ts:Array TypeId} {cs:Array Bool} {k k':IntKind} {a b:Int}:Sq P T .max ts ty cs [.int k a,.int k' b] K h=K (.int k (if b>a then b else a)) h:=by
 simp[Sq,builtin,Builtin.max_,Builtin.max2,Zt,Xm]
end
section
variable {P:Program} {T:World} {K:Value→Hp→Prop} {F:Env} {h:Hp} {ty:TypeId} {B:Value→Prop}
def kE (p:Option (Nat × Nat)) (place:Nat→Option (Nat × Nat)) (cs:List Value) (v:Value) (l:List (Nat × Value)):Option (List Value):=
 match p with
 | some (o,s)=>if (cl v).length=s∧o+s≤cs.length then Q7 place (Yl cs o (cl v)) l else none
 | none=>none
theorem eO {place:Nat→Option (Nat × Nat)} {cs:List Value}:Q7 place cs []=some cs:=rfl
theorem Be {place:Nat→Option (Nat × Nat)} {cs:List Value} {i:Nat} {v:Value} {l:List (Nat × Value)}:Q7 place cs ((i,v) :: l)=kE (place i) place cs v l:=rfl
theorem F8 {o s:Nat} {place:Nat→Option (Nat × Nat)} {cs:List Value} {v:Value} {l:List (Nat × Value)} :
  kE (some (o,s)) place cs v l=if (cl v).length=s∧o+s≤cs.length then Q7 place (Yl cs o (cl v)) l else none:=rfl
theorem eQ {n i:Nat}:Pc n i=some (i*n,n):=rfl
theorem Il {z:List Value} {pl:List (Nat × Nat)} {n:TypeId→Option Nat} {parts:List (Nat × Value)}:Rm (some z) (some pl) none n parts K h=MZ (Q7 (nth pl) z parts) K h:=rfl
theorem Bf {z:List Value} {m e:Nat} {n:TypeId→Option Nat} {parts:List (Nat × Value)}:Rm (some z) none (some (m,e)) n parts K h=MA (n e) z parts K h:=rfl
theorem Gb {z:List Value} {n:Nat} {parts:List (Nat × Value)}:MA (some n) z parts K h=MZ (Q7 (Pc n) z parts) K h:=rfl
theorem Bi {e:TypeId} {len:Nat} {l:List Value}:bq e len (some l) K h=K (.slice (some ⟨h.size,0,none⟩) len len) (h.push (.cells l.toArray e)):=rfl
theorem Lg {e:TypeId} {n len:Nat} {z:List Value} {parts:List (Nat × Value)}:Sr e (some n) (some z) len parts K h=if z.length=n∧len*n≤16777216 then bq e len (MB n len z parts) K h else False:=rfl
theorem Io {e:TypeId} {n:TypeId→Option Nat} {z:TypeId→Option (List Value)} {len:Nat} {parts:List (Nat × Value)}:Pd (some e) n z len parts K h=Sr e (n e) (z e) len parts K h:=rfl
theorem Bj {n o:Nat} {cs:List Value}:Nh (some true) (some n) cs o K h=K (.agg ((cs.drop o).take n).toArray) h:=rfl
theorem F9 {n:Option Nat} {o:Nat} {cs:List Value}:Nh (some false) n cs o K h=Mg (nth cs o) K h:=rfl
theorem eW {o t:Nat} {a:TypeId→Option Bool} {n:TypeId→Option Nat} {cs:List Value}:jN (some (o,t)) a n (.agg cs.toArray) K h=Nh (a t) (n t) cs o K h:=rfl
theorem kF {len e:Nat} {a:TypeId→Option Bool} {n:TypeId→Option Nat} {cs:List Value} {k:IntKind} {i:Int}:dN (some (len,e)) false a n (.agg cs.toArray) (.int k i) K h=bt (n e) (a e) len cs i K h:=rfl
theorem Bk {m len:Nat} {a:Option Bool} {cs:List Value} {i:Int}:bt (some m) a len cs i K h=if 0≤i∧i<(len:Int) then Nh a (some m) cs (i.toNat*m) K h else False:=rfl
theorem kG {a:TypeId→Option Bool} {n:TypeId→Option Nat} {s:ByteArray} {k:IntKind} {i:Int}:dN none true a n (.string s) (.int k i) K h=if 0≤i∧i<(s.size:Int) then K (.int .u8 ((s.data.toList.getD i.toNat 0).toNat:Nat)) h else False:=rfl
theorem rS {d y:Nat}:sb none d y=some d:=rfl
theorem yO {k:IntKind} {i:Int} {d y:Nat}:sb (some (.int k i)) d y=if 0≤i∧i≤(y:Int) then some i.toNat else none:=rfl
def SX (a:Option Addr) (n cap b:Nat) (l:Option Nat) (K:Value→Hp→Prop) (h:Hp):Prop:=
 match l with|some l=>K (.slice (if cap=l then a else a.map (·.add (l*n))) (b-l) (cap-l)) h|none=>False
def kH (n:Nat) (a:Option Addr) (cap:Nat) (lo:Option Value) (b:Option Nat) (K:Value→Hp→Prop) (h:Hp):Prop:=
 match b with|some b=>SX a n cap b (sb lo 0 b) K h|none=>False
theorem Bl {n:Nat} {a:Option Addr} {len cap:Nat} {lo hi:Option Value}:Tt (some n) a len cap lo hi K h=kH n a cap lo (sb hi len cap) K h:=by
 unfold Tt kH SX
 cases sb hi len cap<;>rfl
theorem Bn {n b:Nat} {a:Option Addr} {cap:Nat} {lo:Option Value}:kH n a cap lo (some b) K h=SX a n cap b (sb lo 0 b) K h:=rfl
theorem Bo {n b l k o:Nat} {cap:Nat}:SX (some ⟨k,o,none⟩) n cap b (some l) K h=K (.slice (if cap=l then some ⟨k,o,none⟩ else some ⟨k,o+l*n,none⟩) (b-l) (cap-l)) h:=by
 simp only[SX,Option.map_some,YQ]
theorem Bp {n b l:Nat} {cap:Nat}:SX none n cap b (some l) K h=K (.slice none (b-l) (cap-l)) h:=by
 simp[SX]
theorem Bq {e:Nat} {str:Bool} {n:TypeId→Option Nat} {a:Option Addr} {len cap:Nat} {lo hi:Option Value}:Ib none (some e) str n (.slice a len cap) lo hi none K h=Tt (n e) a len cap lo hi K h:=rfl
def kI (n:Option Nat) (a:Option Addr) (len:Nat) (lo:Option Value) (hv:Value) (m:Option Nat) (K:Value→Hp→Prop) (h:Hp):Prop:=match m with|some m=>Tt n a len m lo (some hv) K h|none=>False
theorem Br {n:Option Nat} {a:Option Addr} {len m:Nat} {lo:Option Value} {hv:Value}:kI n a len lo hv (some m) K h=Tt n a len m lo (some hv) K h:=rfl
theorem kJ {e:Nat} {str:Bool} {n:TypeId→Option Nat} {a:Option Addr} {len cap:Nat} {lo:Option Value} {hv mv:Value}:Ib none (some e) str n (.slice a len cap) lo (some hv) (some mv) K h=kI (n e) a len lo hv (sb (some mv) 0 cap) K h:=by
 simp only[Ib,kI]
 cases sb (some mv) 0 cap<;>rfl
theorem kK {e len:Nat} {str:Bool} {n:TypeId→Option Nat} {a:Addr} {lo hi:Option Value}:Ib (some (len,e)) none str n (.pointer (some a)) lo hi none K h=Tt (n e) (some a) len len lo hi K h:=rfl
def Zcz (s:ByteArray) (lo:Option Value) (b:Option Nat) (K:Value→Hp→Prop) (h:Hp):Prop:=
 match b with
 | some b=>(match sb lo 0 b with|some l=>K (.string (s.extract l b)) h|none=>False)
 | none=>False
theorem kL {n:TypeId→Option Nat} {s:ByteArray} {lo hi:Option Value}:Ib none none true n (.string s) lo hi none K h=Zcz s lo (sb hi s.size s.size) K h:=rfl
theorem kM {e:Nat} {n b':TypeId→Option Nat} {z:TypeId→Option (List Value)} {k k':IntKind} {l c:Int}:vMk (some e) n b' z (.int k l) (.int k' c) K h=qS e (n e) (b' e) (z e) l c K h:=rfl
theorem eY {e n by':Nat} {z:List Value} {l c:Int}:qS e (some n) (some by') (some z) l c K h =
  if z.length=n∧0≤l∧l≤c∧c≤9223372036854775807∧(by':Int)*c≤281474976710656 then K (.slice (some ⟨h.size,0,none⟩) l.toNat c.toNat) (h.push (.cells (XS c.toNat z).toArray e)) else False:=rfl
theorem rT {t:TypeId} {x:Operand} {i:Nat}:H6 P T (.field t x i) ty B F h = ∃u,jN (tfl P t i) (ta P) (tn P) (ev F x) (Su u h) h∧ap B u:=rfl
theorem rU {t:TypeId} {x i:Operand}:H6 P T (.index t x i) ty B F h = ∃u,dN (Yu P t) (Q4 P t) (ta P) (tn P) (ev F x) (ev F i) (Su u h) h∧ap B u:=rfl
theorem rW {t:TypeId} {x:Operand} {lo hi mx:Option Operand}:H6 P T (.slice t x lo hi mx) ty B F h = ∃u,Ib (Yu P t) (Jf P t) (Q4 P t) (tn P) (ev F x) (bz F lo) (bz F hi) (bz F mx) (Su u h) h∧ap B u:=rfl
theorem fa {t:TypeId} {parts:Array (Nat × Operand)}:H6 P T (.build t parts) ty B F h = ∃u,Rm (tz P t) (Rk P t) (Yu P t) (tn P) (CR F parts.toList) (Su u h) h∧ap B u:=rfl
theorem yP {l:List Value}:cl (.agg l.toArray)=l:=rfl
theorem Sv {l:List Value} {t:TypeId} {b o:Nat}:hc (h.push (.cells l.toArray t)) ⟨b,o,none⟩=if b=h.size then nth l o else hc h ⟨b,o,none⟩:=by
 unfold hc
 simp only[Array.getElem?_push]
 by_cases hb:b=h.size
 ·subst hb;simp[Yj]
 ·simp[hb]
theorem bE {l:List Value} {t:TypeId} {b o n:Nat}:rd (h.push (.cells l.toArray t)) ⟨b,o,none⟩ n=if b=h.size then (if o+n≤l.length then some ((l.drop o).take n) else none) else rd h ⟨b,o,none⟩ n:=by
 unfold rd
 simp only[Array.getElem?_push]
 by_cases hb:b=h.size
 ·subst hb;simp
 ·simp[hb]
def Ea (x:Option Hp) (o:Obj):Option Hp:=match x with|some h=>some (h.push o)|none=>none
theorem Bt {o:Obj}:Ea (some h) o=some (h.push o):=rfl
theorem set_push {o o':Obj} {b:Nat} (hb:b<h.size):(h.push o).setIfInBounds b o'=(h.setIfInBounds b o').push o:=by
 apply Array.ext_getElem?
 intro i
 simp only[Array.getElem?_setIfInBounds,Array.getElem?_push,Array.size_push,Array.size_setIfInBounds]
 by_cases h1:b=i
 ·subst h1
  rw[if_pos rfl,if_pos (by omega),if_neg (by omega),if_pos rfl,if_pos hb]
 ·rw[if_neg h1]
  by_cases h2:i=h.size
  ·rw[if_pos h2,if_pos h2]
  ·rw[if_neg h2,if_neg h2,if_neg h1]
theorem Wp {o o':Obj}:(h.push o).setIfInBounds h.size o'=h.push o':=by
 apply Array.ext_getElem?
 intro i
 simp only[Array.getElem?_setIfInBounds,Array.getElem?_push,Array.size_push]
 by_cases h1:h.size=i
 ·subst h1;rw[if_pos rfl,if_pos (by omega),if_pos rfl]
 ·rw[if_neg h1,if_neg (fun e=>h1 e.symm),if_neg (fun e=>h1 e.symm)]
theorem kO {l:List Value} {t:TypeId} {b o:Nat} {v:Value}:Jn (h.push (.cells l.toArray t)) ⟨b,o,none⟩ v=if b=h.size then (if o<l.length∧Z5 v=true then some (h.push (.cells (l.set o v).toArray t)) else none) else Ea (Jn h ⟨b,o,none⟩ v) (.cells l.toArray t):=by
 unfold Jn
 simp only[Array.getElem?_push]
 by_cases hb:b=h.size
 ·subst hb
  simp only[↓reduceIte,List.size_toArray,Nat.le_refl,true_and,Wp,List.setIfInBounds_toArray]
 ·simp only[if_neg hb]
  cases hx:h[b]? with
  | none=>rfl
  | some ob=>
   have ZA:=(Array.getElem?_eq_some_iff.1 hx).1
   cases ob with
   | cells c e fr=>
    obtain⟨lo,hi⟩:=fr
    simp only
    split
    ·simp only[Ea,set_push ZA]
    ·rfl
   | _=>rfl
theorem rY {l:List Value} {t:TypeId} {b o:Nat} {vs:List Value}:wr (h.push (.cells l.toArray t)) ⟨b,o,none⟩ vs=if b=h.size then (if o+vs.length≤l.length∧vs.all Z5=true then some (h.push (.cells (Yl l o vs).toArray t)) else none) else Ea (wr h ⟨b,o,none⟩ vs) (.cells l.toArray t):=by
 unfold wr
 simp only[Array.getElem?_push]
 by_cases hb:b=h.size
 ·subst hb
  simp only[↓reduceIte,List.size_toArray,Nat.le_refl,true_and,Wp]
 ·simp only[if_neg hb]
  cases hx:h[b]? with
  | none=>rfl
  | some ob=>
   have ZA:=(Array.getElem?_eq_some_iff.1 hx).1
   cases ob with
   | cells c e fr=>
    obtain⟨lo,hi⟩:=fr
    simp only
    split
    ·simp only[Ea,set_push ZA]
    ·rfl
   | _=>rfl
end
def YZ (h:Hp) (b o:Nat) (cs:List Value):Prop:=∀i (hi:i<cs.length),hc h ⟨b,o+i,none⟩=some cs[i]
def Sl (n:Nat) (h:Hp) (v:Value) (m:Nat) (cs:List Value):Prop:=
 ∃p cap,v=.slice p m cap∧cs.length=m*n∧(cs≠[]→∃b o,p=some ⟨b,o,none⟩∧YZ h b o cs)
def Ql (B:Nat) (E:TypeId) (n:Nat) (h:Hp) (v:Value) (m:Nat) (cs:List Value):Prop:=
 ((∃p,v=.slice p 0 0)∧m=0∧cs=[]) ∨
 ∃b cap spare,B≤b∧v=.slice (some ⟨b,0,none⟩) m cap∧h[b]? = some (.cells (cs++spare).toArray E (0,0))∧cs.length=m*n∧spare.length=(cap-m)*n∧m≤cap
structure Ze (B:Nat) (h h':Hp):Prop where
 size:h.size≤h'.size
 block:∀b,b<B→h'[b]? = h[b]?
theorem Ze.refl (B:Nat) (h:Hp):Ze B h h:=⟨Nat.le_refl _,fun _ _=>rfl⟩
theorem Ze.trans {B:Nat} {h h' On:Hp} (a:Ze B h h') (b:Ze B h' On):Ze B h On:=
 ⟨Nat.le_trans a.size b.size,fun k hk=>(b.block k hk).trans (a.block k hk)⟩
theorem Ze.mono {B B':Nat} {h h':Hp} (a:Ze B h h') (hB:B'≤B):Ze B' h h':=⟨a.size,fun k hk=>a.block k (Nat.lt_of_lt_of_le hk hB)⟩
theorem Ze.push {B:Nat} {h:Hp} (hB:B≤h.size) (o:Obj):Ze B h (h.push o):=
 ⟨by simp,fun k hk=>by rw[Array.getElem?_push,if_neg (by omega)]⟩
theorem Ze.set {B:Nat} {h:Hp} {b:Nat} (hb:B≤b) (o:Obj):Ze B h (h.setIfInBounds b o):=
 ⟨by simp,fun k hk=>by rw[Array.getElem?_setIfInBounds,if_neg (by omega)]⟩
theorem Ze.hc {B:Nat} {h h':Hp} (a:Ze B h h') {p:Addr} (hp:p.block<B):hc h' p=hc h p:=by unfold V.hc;rw[a.block _ hp]
theorem Za {h:Hp} {b:Nat} {o:Obj} (hb:h[b]? = some o):b<h.size:=(Array.getElem?_eq_some_iff.1 hb).1
theorem Q9 {h:Hp} {p:Addr} {v:Value} (hp:hc h p=some v):p.block<h.size:=by
 unfold hc at hp
 cases hb:h[p.block]? with
 | none=>rw[hb]at hp;cases hp
 | some o=>exact Za hb
theorem Vn {h:Hp} {b:Nat} {c:Array Value} {e:TypeId} {fr:Nat × Nat} (hb:h[b]? = some (.cells c e fr)) (o:Nat):hc h ⟨b,o,none⟩=c[o]?:=by
 unfold hc;simp only[hb];rfl
theorem Ze.YZ {B:Nat} {h h':Hp} (a:Ze B h h') {b o:Nat} {cs:List Value} (hb:b<B) (Yx:YZ h b o cs):YZ h' b o cs:=
 fun i hi=>by rw[a.hc (by exact hb)];exact Yx i hi
theorem Sl.Z4 {n:Nat} {h h':Hp} {v:Value} {m:Nat} {cs:List Value} (s:Sl n h v m cs) (a:Ze h.size h h'):Sl n h' v m cs:=by
 obtain⟨p,cap,hv,hl,hc⟩:=s
 refine⟨p,cap,hv,hl,fun Yr=>?_⟩
 obtain⟨b,o,hp,Yx⟩:=hc Yr
 refine⟨b,o,hp,a.YZ ?_ Yx⟩
 have M3:0<cs.length:=List.length_pos_iff.2 Yr
 exact Q9 (Yx 0 M3)
theorem Ql.sl {B:Nat} {E:TypeId} {n:Nat} {h:Hp} {v:Value} {m:Nat} {cs:List Value} (s:Ql B E n h v m cs):Sl n h v m cs:=by
 rcases s with⟨⟨p,rfl⟩,rfl,rfl⟩|⟨b,cap,spare,hB,rfl,hb,hl,_,_⟩
 ·exact⟨p,0,rfl,by simp,fun h=>(h rfl).elim⟩
 ·refine⟨_,cap,rfl,hl,fun _=>⟨b,0,rfl,fun i hi=>?_⟩⟩
  rw[Vn hb,Nat.zero_add]
  simp[List.getElem?_append_left hi]
theorem Ql.nil (B:Nat) (E:TypeId) (n:Nat) (h:Hp):Ql B E n h (.slice none 0 0) 0 []:=.inl ⟨⟨none,rfl⟩,rfl,rfl⟩
theorem Ql.Ip (B:Nat) (E:TypeId) (n:Nat) (h:Hp) (p:Option Addr):Ql B E n h (.slice p 0 0) 0 []:=.inl ⟨⟨p,rfl⟩,rfl,rfl⟩
def ZM:Value→Option Nat
 | .slice (some a) _ cap=>if cap=0 then none else some a.block
 | _=>none
structure VT (x:Option Nat) (h h':Hp):Prop where
 size:h.size≤h'.size
 block:∀b,b<h.size→x≠some b→h'[b]? = h[b]?
theorem VT.Z4 {x:Option Nat} {h h':Hp} (a:VT x h h') {B:Nat} (hB:B≤h.size) (hx:∀b,x=some b→B≤b):Ze B h h':=
 ⟨a.size,fun k hk=>a.block k (by omega) (fun e=>by have:=hx k e;omega)⟩
theorem Ql.ZD {B:Nat} {E:TypeId} {n:Nat} {h:Hp} {v:Value} {m:Nat} {cs:List Value} (s:Ql B E n h v m cs):∀b,ZM v=some b→B≤b:=by
 intro b hb
 rcases s with⟨⟨p,rfl⟩,_,_⟩|⟨b',cap,spare,hB,rfl,_⟩
 ·cases p<;>simp[ZM]at hb
 ·simp only[ZM]at hb
  split at hb
  ·cases hb
  ·simp only[Option.some.injEq]at hb;omega
theorem Ql.Mh {B:Nat} {E:TypeId} {n:Nat} {h h':Hp} {v:Value} {m:Nat} {cs:List Value} (s:Ql B E n h v m cs) {x:Option Nat} (a:VT x h h') (hx:∀b,ZM v=some b→x≠some b):Ql B E n h' v m cs:=by
 rcases s with s|⟨b,cap,spare,hB,rfl,hb,r⟩
 ·exact .inl s
 ·by_cases hc:cap=0
  ·subst hc
   obtain⟨r1,r2,r3⟩:=r
   have hm:m=0:=by omega
   subst hm
   exact .inl ⟨⟨_,rfl⟩,rfl,List.eq_nil_of_length_eq_zero (by simpa using r1)⟩
  ·exact .inr ⟨b,cap,spare,hB,rfl,by rw[a.block b (Za hb) (hx b (by simp[ZM,hc]))];exact hb,r⟩
theorem VT.push {h:Hp} (o:Obj) {x:Option Nat}:VT x h (h.push o):=⟨by simp,fun k hk _=>by rw[Array.getElem?_push,if_neg (by omega)]⟩
theorem VT.refl {h:Hp} {x:Option Nat}:VT x h h:=⟨Nat.le_refl _,fun _ _ _=>rfl⟩
theorem Ql.push {B:Nat} {E:TypeId} {n:Nat} {h:Hp} {v:Value} {m:Nat} {cs:List Value} (s:Ql B E n h v m cs) (o:Obj):Ql B E n (h.push o) v m cs:=
 s.Mh (x:=none) (VT.push o) (fun _ _=>by simp)
theorem Ql.Z4 {B C:Nat} {E:TypeId} {n:Nat} {h h':Hp} {v:Value} {m:Nat} {cs:List Value} (s:Ql B E n h v m cs) (a:Ze C h h') (hC:h.size≤C):Ql B E n h' v m cs:=
 s.Mh (x:=none) ⟨a.size,fun b hb _=>a.block b (by omega)⟩ (fun _ _=>by simp)
theorem Ql.mono {B B':Nat} {E:TypeId} {n:Nat} {h:Hp} {v:Value} {m:Nat} {cs:List Value} (s:Ql B E n h v m cs) (hB:B'≤B):Ql B' E n h v m cs:=by
 rcases s with s|⟨b,cap,spare,hb,r⟩
 ·exact .inl s
 ·exact .inr ⟨b,cap,spare,by omega,r⟩
section
variable {P:Program} {T:World} {K:Value→Hp→Prop} {F:Env} {h:Hp} {ty:TypeId}
theorem Z3 {n m:Nat} {v:Value} {cs:List Value} (s:Sl n h v m cs) {Q:Array Value→Hp→Prop} (H:Q cs.toArray h):hw P (Builtin.firstCells n m v) Q h:=by
 obtain⟨p,cap,rfl,hl,hc⟩:=s
 cases p with
 | none=>
  have:cs=[]:=by
   cases cs with
   | nil=>rfl
   | cons x l=>obtain⟨b,o,hp,_⟩:=hc (by simp);cases hp
  subst this
  exact H
 | some a=>
  show hw P (loadCells a (m*n)) Q h
  rw[←hl]
  refine run_loadCells a cs _ 0 #[] (fun j hj=>?_) rfl (by simpa using H)
  obtain⟨b,o,hp,Yx⟩:=hc (by intro e;subst e;simp at hj)
  simp only[Option.some.injEq]at hp
  subst hp
  rw[YQ,Nat.zero_add,Yx j hj]
  simp[hj]
theorem Sl.lenOf {n m:Nat} {v:Value} {cs:List Value} (s:Sl n h v m cs) {Q:Nat→Hp→Prop}:hw P (Builtin.lenOf v) Q h=Q m h:=by
 obtain⟨p,cap,rfl,_,_⟩:=s;rfl
theorem UR (l r vs:List Value):Yl (l++r) l.length vs=l++Yl r 0 vs:=by
 induction l with
 | nil=>simp
 | cons x l ih=>
  cases vs with
  | nil=>simp[Yl]
  | cons v vs=>simp only[List.cons_append,List.length_cons,Yl];rw[ih]
theorem Qa (r vs:List Value) (h:vs.length≤r.length):Yl r 0 vs=vs++r.drop vs.length:=by
 induction vs generalizing r with
 | nil=>simp[Yl]
 | cons v vs ih=>
  cases r with
  | nil=>simp at h
  | cons x r=>simp only[Yl,List.cons_append,List.length_cons,List.drop_succ_cons];rw[ih r (by simpa using h)]
theorem YA (z:Array Value) (n:Nat):(Builtin.zeroCells z n).size=n*z.size:=by simp[Builtin.zeroCells]
theorem US (Uj cap bytes:Nat) (ZA:cap<Uj) (hb:Uj*bytes≤140737488355328):Builtin.nextslicecap Uj cap*bytes≤281474976710656:=by
 have g1:∀(r c:Nat),Uj≤c→Builtin.growBy Uj r c=c:=by
  intro r c hc
  cases r with
  | zero=>rfl
  | succ r=>simp[Builtin.growBy,hc]
 have g2:∀(r c:Nat),c<Uj→Builtin.growBy Uj r c≤Uj+(Uj+768)/4:=by
  intro r
  induction r with
  | zero=>intro c hc;simp only[Builtin.growBy];omega
  | succ r ih=>
   intro c hc
   simp only[Builtin.growBy]
   rw[if_neg (by omega)]
   by_cases h2:c+(c+768)/4<Uj
   ·exact ih _ h2
   ·rw[g1 r _ (by omega)];omega
 have key:Builtin.nextslicecap Uj cap≤2*Uj+192:=by
  unfold Builtin.nextslicecap
  split
  ·omega
  ·split
   ·omega
   ·have:=g2 4 cap ZA;omega
 have e1:Builtin.nextslicecap Uj cap*bytes≤(2*Uj+192)*bytes:=Nat.mul_le_mul_right _ key
 unfold Builtin.nextslicecap
 split
 ·omega
 ·rename_i h1
  split
  ·have:2*cap*bytes≤2*Uj*bytes:=Nat.mul_le_mul_right _ (by omega)
   have e:2*Uj*bytes=2*(Uj*bytes):=by rw[Nat.mul_assoc]
   omega
  ·rename_i h2
   have hg:=g2 4 cap ZA
   have h3:Builtin.growBy Uj 4 cap*bytes≤(Uj+(Uj+768)/4)*bytes:=Nat.mul_le_mul_right _ hg
   have h4:(Uj+(Uj+768)/4)*bytes≤(2*Uj)*bytes:=Nat.mul_le_mul_right _ (by omega)
   have e:2*Uj*bytes=2*(Uj*bytes):=by rw[Nat.mul_assoc]
   omega
theorem Lh {sT xT E E' B n m k bytes:Nat} {v s:Value} {cs news zs:List Value} {cb:Array Bool} (Uz:Jf P sT=some E) (Gc:P.underlying xT=some (.slice E')) (hn:tn P E=some n) (hz:tz P E=some zs) (Bu:zs.length=n) (St:tb P E=some bytes)
  (own:Ql B E n h v m cs) (hB:B≤h.size) (src:Sl n h s k news) (Xd:news.all Z5=true) (Ym:(m+k)*bytes≤140737488355328) (Iq:1≤bytes)
  (H:∀v' h',Ql B E n h' v' (m+k) (cs++news)→VT (ZM v) h h'→K v' h'):Sq P T .append #[sT,xT] ty cb [v,s] K h:=by
 unfold Jf at Uz
 split at Uz
 ·rename_i e' hu
  simp only[Option.some.injEq]at Uz
  subst Uz
  show hw P (do pure (.value (←Builtin.append_ #[sT,xT] ty #[v,s]))) (Xm P T K) h
  rw[Zf]
  show hw P (Builtin.append_ #[sT,xT] ty #[v,s]) K h
  obtain⟨i0,TC⟩:∃i,P.info? e'=some i:=by
   unfold tn at hn
   cases hi:P.info? e' with
   | none=>rw[hi]at hn;cases hn
   | some i=>exact⟨i,rfl⟩
  have Rp:i0.bytes=bytes:=by unfold tb at St;rw[TC]at St;simpa using St
  obtain⟨z0,FC,Bv⟩:∃z,i0.zero=some z∧z.cells.toList=zs:=by
   unfold tz at hz;rw[TC]at hz
   cases MD:i0.zero with
   | none=>rw[Option.bind_some,MD]at hz;cases hz
   | some z=>rw[Option.bind_some,MD]at hz;exact⟨z,rfl,by simpa using hz⟩
  have qQ:∃base cap,v=.slice base m cap:=by
   rcases own with⟨⟨p,rfl⟩,rfl,_⟩|⟨b,cap,sp,_,rfl,_⟩
   ·exact⟨_,_,rfl⟩
   ·exact⟨_,_,rfl⟩
  obtain⟨base,cap,hv⟩:=qQ
  subst hv
  have fb:∀{Q:Value→Hp→Prop} (g:Hp),hw P (zeroValue e') Q g=Q z0 g:=fun {Q} g=>by
   unfold zeroValue;rw[Zf,Y1 TC];simp only[FC];rfl
  simp only[Builtin.append_,List.getElem?_toArray,List.getElem?_cons_zero,List.getElem?_cons_succ,Zf,Zt,Zr hu,Zr Gc,run_sizeOf hn,Bool.false_eq_true,if_false,src.lenOf,Bool.not_false,if_true]
  by_cases Xr:m+k≤cap
  ·rw[if_pos Xr,Zf]
   refine Z3 src ?_
   have Qq:news.length=k*n:=by obtain⟨_,_,_,hl,_⟩:=src;exact hl
   by_cases Yr:news=[]
   ·subst Yr
    have Eb:hw P (match base with|some a=>(do storeCells (a.add (m*n)) [];pure (Value.slice base (m+k) cap))|none=>pure (Value.slice base (m+k) cap)) K h=K (.slice base (m+k) cap) h:=by
     cases base<;>rfl
    have hK:K (.slice base (m+k) cap) h:=by
     refine H _ _ ?_ VT.refl
     rcases own with⟨⟨p,h1⟩,h2,h3⟩|⟨b,Li,spare,MF,h1,hb,hl,SY,bF⟩
     ·simp only[Value.slice.injEq]at h1
      obtain⟨rfl,rfl,rfl⟩:=h1
      have hk:k=0:=by omega
      subst hk;subst h3
      exact .inl ⟨⟨_,rfl⟩,rfl,rfl⟩
     ·simp only[Value.slice.injEq]at h1
      obtain⟨rfl,_,rfl⟩:=h1
      have jk:k*n=0:=by simpa using Qq.symm
      refine .inr ⟨b,cap,spare,MF,rfl,by simpa using hb,by rw[List.append_nil,hl,Nat.add_mul,jk];rfl,?_,Xr⟩
      rw[SY,Nat.sub_mul,Nat.sub_mul,Nat.add_mul,jk,Nat.add_zero]
    cases base<;>exact hK
   rcases own with⟨⟨p,h1⟩,h2,h3⟩|⟨b,Li,spare,MF,h1,hb,hl,SY,bF⟩
   ·simp only[Value.slice.injEq]at h1
    obtain⟨rfl,rfl,rfl⟩:=h1
    have hk:k=0:=by omega
    subst hk
    exact (Yr (List.eq_nil_of_length_eq_zero (by simpa using Qq))).elim
   ·simp only[Value.slice.injEq]at h1
    obtain⟨rfl,_,rfl⟩:=h1
    simp only[Zf,YQ]
    have VU:news.length≤spare.length:=by rw[Qq,SY];exact Nat.mul_le_mul_right _ (by omega)
    refine Yf (e:=e') (lo:=0) (hi:=0) rfl (Nat.le_refl _) news 0 h (cs++spare).toArray hb ?_ Xd ?_
    ·simp;rw[←hl];omega
    ·simp only[Zt,Nat.zero_add,Nat.add_zero]
     refine H _ _ (.inr ⟨b,cap,spare.drop news.length,MF,rfl,?_,?_,?_,Xr⟩) ⟨by simp,fun b' X3 hx=>?_⟩
     ·rw[Array.getElem?_setIfInBounds,if_pos rfl,if_pos (Za hb)]
      rw[←hl,UR,Qa _ _ VU,List.append_assoc]
     ·rw[List.length_append,hl,Qq,Nat.add_mul]
     ·rw[List.length_drop,SY,Qq,←Nat.sub_mul];congr 1;omega
     ·rw[Array.getElem?_setIfInBounds,if_neg]
      intro e;subst e
      have yQ:cap≠0:=by
       intro h0;subst h0
       have:k=0:=by omega
       subst this
       exact Yr (List.eq_nil_of_length_eq_zero (by simpa using Qq))
      exact hx (by simp[ZM,yQ])
  ·rw[if_neg Xr]
   have Jg:¬Builtin.nextslicecap (m+k) cap*i0.bytes>2 ^ 48:=by
    rw[Rp]
    have:=US (m+k) cap bytes (by omega) Ym
    omega
   have Bw:¬i0.bytes=0:=by rw[Rp];omega
   simp only[Zf,Y1 TC,Bw,or_false,and_false,if_false,if_neg Jg]
   intro t
   obtain⟨c,hc⟩:=Zu (Question.cut (Question.appendCap (m+k) cap e') t)
   have kP:m+k≤c:=by rw[hc];simp only[Question.cut];omega
   rw[←hc]
   have Rq:∀{Q:Unit→Hp→Prop} (b:Nat) (g:Hp),Q () g→hw P (askRoom b) Q g:=fun {Q} b g q=>by
    unfold askRoom;split<;>exact q
   refine Rq _ _ (Z3 own.sl (Z3 src ?_))
   rw[fb]
   have kQ:z0.cells.size=n:=by rw[←Bu,←Bv];simp
   refine H (.slice (some ⟨h.size,0,none⟩) (m+k) c) _ (.inr ⟨h.size,c,(Builtin.zeroCells z0.cells (c-(m+k))).toList,hB,rfl,?_,?_,?_,kP⟩) (VT.push _)
   ·rw[Array.getElem?_push_size]
    simp
   ·have Qq:news.length=k*n:=by obtain⟨_,_,_,hl,_⟩:=src;exact hl
    have X4:cs.length=m*n:=by obtain⟨_,_,_,hl,_⟩:=own.sl;exact hl
    rw[List.length_append,X4,Qq,Nat.add_mul]
   ·rw[Array.length_toList,YA,kQ]
 ·cases Uz
def bv (x:Nat):Value:=.int .u8 x
structure Bs (h:Hp) (v:Value) (l:List Nat):Prop where
 sl:Sl 1 h v l.length (l.map bv)
 byte:∀x∈l,x<256
structure Z1 (B:Nat) (E:TypeId) (h:Hp) (v:Value) (l:List Nat):Prop where
 own:Ql B E 1 h v l.length (l.map bv)
 byte:∀x∈l,x<256
theorem Z1.bs {B:Nat} {E:TypeId} {h:Hp} {v:Value} {l:List Nat} (s:Z1 B E h v l):Bs h v l:=⟨s.own.sl,s.byte⟩
theorem Bs.Z4 {h h':Hp} {v:Value} {l:List Nat} (s:Bs h v l) (a:Ze h.size h h'):Bs h' v l:=⟨s.sl.Z4 a,s.byte⟩
theorem Z1.Z4 {B C:Nat} {E:TypeId} {h h':Hp} {v:Value} {l:List Nat} (s:Z1 B E h v l) (a:Ze C h h') (hC:h.size≤C):Z1 B E h' v l:=⟨s.own.Z4 a hC,s.byte⟩
theorem Z1.mono {B B':Nat} {E:TypeId} {h:Hp} {v:Value} {l:List Nat} (s:Z1 B E h v l) (hB:B'≤B):Z1 B' E h v l:=⟨s.own.mono hB,s.byte⟩
theorem Z1.push {B:Nat} {E:TypeId} {h:Hp} {v:Value} {l:List Nat} (s:Z1 B E h v l) (o:Obj):Z1 B E (h.push o) v l:=⟨s.own.push o,s.byte⟩
theorem Z1.nil (B:Nat) (E:TypeId) (h:Hp):Z1 B E h (.slice none 0 0) []:=⟨Ql.nil B E 1 h,fun _ h=>by cases h⟩
theorem VV (l:List Nat):(l.map bv).all Z5=true:=by simp[bv,Z5]
theorem Bs.open {v:Value} {l:List Nat} (s:Bs h v l):∃p cap,v=.slice p l.length cap∧(l≠[]→∃b o,p=some ⟨b,o,none⟩∧b<h.size∧∀i (hi:i<l.length),hc h ⟨b,o+i,none⟩=some (.int .u8 (l[i]:Nat))):=by
 obtain⟨⟨p,cap,hv,_,hc⟩,_⟩:=s
 refine⟨p,cap,hv,fun Yr=>?_⟩
 obtain⟨b,o,hp,Yx⟩:=hc (by simpa using Yr)
 refine⟨b,o,hp,?_,fun i hi=>?_⟩
 ·exact Q9 (Yx 0 (by simpa using List.length_pos_iff.2 Yr))
 ·have:=Yx i (by simpa using hi)
  simpa [bv] using this
end
attribute [go_sem] qY yG qZ yH rh jY dU rn rq jV jW dS jX C0 jT CX CZ FT jS
 Wo yN j5 dZ rH dM Zh eh rI KZ QE C9 eu cl ew ey IX Lc j6 Ba FX H8 Ij
 Ld Bb FY Le Bc FZ rL eB eE Lf H9 eG Bd
 j7 j8 j9 kf kh ki rM kj F0 ko kq kr ku kv ky kA kC rN rO rP eH F6
 eI eJ Ga Ik rQ rR jZ C2 C3 FU yI ru jj j0 C4 j2 C6 j3 dV C7 dW FV yJ rE dX dY FW Lb rF H7 rG yL j4 yM Rr
 MY Jm Rj Option.map_some Option.bind_some Option.isSome_some decide_eq_true_eq decide_eq_false_iff_not
attribute [go_sem] eO Be F8 eQ Il Bf Gb Bi Lg Io Bj F9 eW kF Bk kG rS yO Bl Bn Bo Bp Bq kJ Br kK kL
 kM eY rT rU rW fa yP Sv bE Bt kO rY CR bz nth Yl CS MB Z5 List.toList_toArray List.length_cons List.length_nil List.drop_succ_cons List.drop_zero List.take_succ_cons List.take_zero List.set_cons_zero List.set_cons_succ
 List.all_cons List.all_nil Bool.and_true Array.size_push Nat.zero_add List.take_nil List.drop_nil
def vi:Value→Int|.int _ n=>n|_=>0
theorem Z9 {α:Type} (l:List α) (i:Nat) (hi:i<l.length):l.take (i+1)=l.take i++[l[i]]:=List.take_succ_eq_append_getElem hi
def w64 (n:Int):Int:=IntKind.i64.wrap n
theorem Bx (n:Int):IntKind.i64.wrap n=if -9223372036854775808≤n∧n≤9223372036854775807 then n else w64 n:=by
 split
 ·rename_i h;exact IntWalk.i64_in n h
 ·rfl
theorem Ec (n:Int):IntKind.u8.wrap n=n%256:=by simp[IntKind.wrap,IntKind.bits,IntKind.signed]
theorem Pj (n:Int):IntKind.u32.wrap n=n%4294967296:=by simp[IntKind.wrap,IntKind.bits,IntKind.signed]
theorem Pk (n:Int):IntKind.u64.wrap n=n%18446744073709551616:=by simp[IntKind.wrap,IntKind.bits,IntKind.signed]
attribute [go_sem] Bx Ec Pj Pk true_and and_true ne_eq not_true_eq_false not_false_eq_true decide_true decide_false Bool.false_eq_true Int.toNat_natCast Nat.mul_one
theorem Oo (w a:Nat):BitVec.ofInt w (a:Int)=BitVec.ofNat w a:=by
 apply BitVec.eq_of_toNat_eq
 simp[BitVec.toNat_ofNat]
theorem Vo (k:IntKind) (n:Nat) (h:n<2 ^ (if k.signed then k.bits-1 else k.bits)):k.wrap (n:Int)=n:=by
 cases k<;>simp[IntKind.wrap,IntKind.bits,IntKind.signed]at h ⊢<;>omega
theorem Sw (k:IntKind) (a b:Nat) (ha:a<2 ^ (if k.signed then k.bits-1 else k.bits)) (hb:b<2 ^ (if k.signed then k.bits-1 else k.bits)):Z8 .and k a b=((a &&& b:Nat):Int):=by
 have hle:2 ^ (if k.signed then k.bits-1 else k.bits)≤2 ^ k.bits:=Nat.pow_le_pow_right (by omega) (by split<;>omega)
 simp only[Z8,Oo]
 rw[BitVec.toNat_and,BitVec.toNat_ofNat,BitVec.toNat_ofNat,Nat.mod_eq_of_lt (by omega),Nat.mod_eq_of_lt (by omega)]
 exact Vo k _ (Nat.lt_of_le_of_lt Nat.and_le_left ha)
theorem Pm (k:IntKind) (a b:Nat) (ha:a<2 ^ (if k.signed then k.bits-1 else k.bits)) (hb:b<2 ^ (if k.signed then k.bits-1 else k.bits)):Z8 .or k a b=((a ||| b:Nat):Int):=by
 have hle:2 ^ (if k.signed then k.bits-1 else k.bits)≤2 ^ k.bits:=Nat.pow_le_pow_right (by omega) (by split<;>omega)
 simp only[Z8,Oo]
 rw[BitVec.toNat_or,BitVec.toNat_ofNat,BitVec.toNat_ofNat,Nat.mod_eq_of_lt (by omega),Nat.mod_eq_of_lt (by omega)]
 exact Vo k _ (Nat.or_lt_two_pow ha hb)
theorem IY (k:IntKind) (a b:Nat) (ha:a<2 ^ (if k.signed then k.bits-1 else k.bits)) (hb:b<2 ^ (if k.signed then k.bits-1 else k.bits)):Z8 .xor k a b=((a ^^^ b:Nat):Int):=by
 have hle:2 ^ (if k.signed then k.bits-1 else k.bits)≤2 ^ k.bits:=Nat.pow_le_pow_right (by omega) (by split<;>omega)
 simp only[Z8,Oo]
 rw[BitVec.toNat_xor,BitVec.toNat_ofNat,BitVec.toNat_ofNat,Nat.mod_eq_of_lt (by omega),Nat.mod_eq_of_lt (by omega)]
 exact Vo k _ (Nat.xor_lt_two_pow ha hb)
theorem kR (a b:Nat) (ha:a<256) (hb:b<256):Z8 .and .u8 a b=((a &&& b:Nat):Int):=Sw .u8 a b ha hb
theorem ZcA (a b:Nat) (ha:a<256) (hb:b<256):Z8 .or .u8 a b=((a ||| b:Nat):Int):=Pm .u8 a b ha hb
theorem Gd (a b:Nat) (ha:a<256) (hb:b<256):Z8 .xor .u8 a b=((a ^^^ b:Nat):Int):=IY .u8 a b ha hb
theorem Pq (a b:Nat) (ha:a<4294967296) (hb:b<4294967296):Z8 .and .u32 a b=((a &&& b:Nat):Int):=Sw .u32 a b ha hb
theorem TI (a b:Nat) (ha:a<4294967296) (hb:b<4294967296):Z8 .or .u32 a b=((a ||| b:Nat):Int):=Pm .u32 a b ha hb
theorem JG (a b:Nat) (ha:a<4294967296) (hb:b<4294967296):Z8 .xor .u32 a b=((a ^^^ b:Nat):Int):=IY .u32 a b ha hb
theorem rZ (a b:Nat) (ha:a<18446744073709551616) (hb:b<18446744073709551616):Z8 .and .u64 a b=((a &&& b:Nat):Int):=Sw .u64 a b ha hb
theorem By (a b:Nat) (ha:a<18446744073709551616) (hb:b<18446744073709551616):Z8 .or .u64 a b=((a ||| b:Nat):Int):=Pm .u64 a b ha hb
theorem sc (a b:Nat) (ha:a<9223372036854775808) (hb:b<9223372036854775808):Z8 .and .i64 a b=((a &&& b:Nat):Int):=Sw .i64 a b ha hb
theorem Rs (a b:Nat) (ha:a<9223372036854775808) (hb:b<9223372036854775808):Z8 .or .i64 a b=((a ||| b:Nat):Int):=Pm .i64 a b ha hb
theorem Sx (k:IntKind) (a n:Nat) (hn:n≤k.bits):Xa k a n=((a >>> n:Nat):Int):=by
 simp only[Xa,Int.toNat_natCast,Nat.min_eq_left hn]
 rw[Int.fdiv_eq_ediv_of_nonneg _ (Int.le_of_lt (Int.pow_pos (by omega))),Nat.shiftRight_eq_div_pow]
 simp
theorem Ge (k:IntKind) (a n:Nat) (hn:n≤k.bits):Yz k a n=k.wrap ((a*2 ^ n:Nat):Int):=by
 simp only[Yz,Int.toNat_natCast,Nat.min_eq_left hn]
 simp
theorem Gf (a b:Nat):a ^^^ b=0↔a=b:=by
 constructor
 ·intro h
  have h2:a ^^^ b ^^^ b=0 ^^^ b:=by rw[h]
  rwa [Nat.xor_assoc,Nat.xor_self,Nat.xor_zero,Nat.zero_xor]at h2
 ·intro h;subst h;exact Nat.xor_self a
theorem Ed (a b:Nat):a ||| b=0↔a=0∧b=0:=by
 simp
open Go.ChangeShapes Go.WideShapes Go.ChangeAt Go.RowKit
def fit (P:Program) (h:Hp):Nat→TypeId→List Value→Prop
 | 0,_,_=>False
 | k+1,t,cs=>
  match P.underlying t with
  | some .bool=>∃b,cs=[.bool b]
  | some (.int i)=>∃n,cs=[.int i n]∧(Lit.int i n).wf=true
  | some .string=>∃s,cs=[.string s]∧s.size≤reachBytes
  | some (.slice e)=>∃p len cap,cs=[.slice p len cap]∧len≤cap∧cap*P.bytesOf e≤reachBytes ∧
    (len≠0→P.cellsOf e≠0→∃b o,p=some ⟨b,o,none⟩∧b<h.size∧∀i,i<len→∃ds,ds.length=P.cellsOf e∧YZ h b (o+i*P.cellsOf e) ds∧fit P h k e ds)
  | some (.struct fs)=>cs.length=P.cellsOf t∧∀f∈fs.toList,fit P h k f.type ((cs.drop f.offset).take (P.cellsOf f.type))
  | some (.array n e)=>cs.length=P.cellsOf t∧∀i,i<n→fit P h k e ((cs.drop (i*P.cellsOf e)).take (P.cellsOf e))
  | _=>True
def fc (P:Program) (h:Hp) (k:Nat) (t:TypeId) (v:Value):Prop:=
 match ta P t with
 | some true=>∃cs:List Value,v=.agg cs.toArray∧fit P h k t cs
 | _=>fit P h k t [v]
def fitAll (P:Program) (h:Hp):List TypeId→List Value→Prop
 | [],[]=>True
 | t :: ts,v :: vs=>(∃k,fc P h k t v)∧fitAll P h ts vs
 | _,_=>False
theorem Vp {α β:Type} {f:α→Option β}:∀{l:List α} {r:List β},l.mapM f=some r→r.length=l.length∧∀(i:Nat) (x:α) (y:β),l[i]? = some x→r[i]? = some y→f x=some y
 | [],r,h=>by
  simp only[List.mapM_nil,pure,Option.some.injEq]at h
  subst h
  exact⟨rfl,fun i x y hx _=>by simp at hx⟩
 | a :: l,r,h=>by
  rw[List.mapM_cons]at h
  cases ha:f a with
  | none=>rw[ha]at h;cases h
  | some b=>
   rw[ha]at h
   cases hl:l.mapM f with
   | none=>simp[hl]at h
   | some bs=>
    simp[hl]at h
    subst h
    obtain⟨h1,h2⟩:=Vp hl
    refine⟨by simp[h1],fun i x y hx hy=>?_⟩
    cases i with
    | zero=>simp at hx hy;subst hx;subst hy;exact ha
    | succ i=>simp at hx hy;exact h2 i x y hx hy
theorem Lj {w:World} {base:Nat} {a:Addr} {n:Nat} {ds:List Value} (h:w.cells? base a n=some ds):ds.length=n∧∀i (hi:i<ds.length),w.cell? (a.add i)=some ds[i]:=by
 unfold World.cells? at h
 split at h
 ·obtain⟨h1,h2⟩:=Vp h
  rw[List.length_range]at h1
  refine⟨h1,fun i hi=>h2 i i ds[i] ?_ ?_⟩
  ·rw[List.getElem?_range (by omega)]
  ·exact List.getElem?_eq_getElem hi
 ·cases h
theorem ff {w:World} {a:Addr} {i:Nat} {v:Value} (h:w.cell? (a.add i)=some v) (hi:i=0):a.spot=none:=by
 subst hi
 have e:a.add 0=a:=by simp[Addr.add]
 rw[e]at h
 unfold World.cell? at h
 split at h
 ·split at h
  ·cases h
  ·rename_i hs;simpa using hs
 ·cases h
theorem Tu {H:Type} {P:Program} {q:Nat→Bool}:∀(ts:List TypeId) (ds:List (DataW H)),(DataW.weightsEach P ts ds).all q=true→∀(i:Nat) (t:TypeId) (d:DataW H),ts[i]? = some t→ds[i]? = some d→(d.weights P t).all q=true
 | [],_,_,i,t,d,ht,_=>by simp at ht
 | t :: ts,[],_,i,t',d,_,hd=>by simp at hd
 | t :: ts,d :: ds,h,i,t',d',ht,hd=>by
  simp only[DataW.weightsEach,List.all_append,Bool.and_eq_true]at h
  cases i with
  | zero=>simp at ht hd;subst ht;subst hd;exact h.1
  | succ i=>simp at ht hd;exact Tu ts ds h.2 i t' d' ht hd
theorem UT {H:Type} {P:Program} {e:TypeId} {q:Nat→Bool}:∀(ds:List (DataW H)),(DataW.weightsAll P e ds).all q=true→∀(i:Nat) (d:DataW H),ds[i]? = some d→(d.weights P e).all q=true
 | [],_,i,d,hd=>by simp at hd
 | d :: ds,h,i,d',hd=>by
  simp only[DataW.weightsAll,List.all_append,Bool.and_eq_true]at h
  cases i with
  | zero=>simp at hd;subst hd;exact h.1
  | succ i=>simp at hd;exact UT ds h.2 i d' hd
theorem Wq {H:Type} {enc:TypeId × Value→H} {P:Program} {w:World}:∀(k:Nat) (t:TypeId) (cs:List Value) (d:DataW H) (ps:List MemPlace),
  DataW.trod enc P w 0 (fun _=>true) true k t cs=some (d,ps)→(d.weights P t).all (· ≤ reachBytes)=true→fit P w.heap k t cs
 | 0,t,cs,d,ps,h,_=>by simp[DataW.trod]at h
 | k+1,t,cs,d,ps,h,hw=>by
  unfold DataW.trod at h
  unfold fit
  split at h
  ·rename_i hu;rw[hu];exact⟨_,rfl⟩
  ·rename_i i i' n hu
   rw[hu]
   split at h
   ·rename_i hc;obtain⟨rfl,hc⟩:=hc;exact⟨_,rfl,hc⟩
   ·cases h
  ·rename_i hu;rw[hu];trivial
  ·rename_i s hu
   rw[hu]
   split at h
   ·simp only[Option.some.injEq,Prod.mk.injEq]at h
    obtain⟨rfl,_⟩:=h
    refine⟨_,rfl,?_⟩
    simpa [DataW.weights] using hw
   ·cases h
  ·rename_i hu;rw[hu];trivial
  ·rename_i hu;rw[hu];trivial
  ·rename_i e hu
   rw[hu]
   exact⟨_,_,_,rfl,Nat.le_refl _,by simp,fun h=>(h rfl).elim⟩
  ·rename_i e a len cap hu
   rw[hu]
   split at h
   ·rename_i Pe
    simp only[if_true]at h
    cases he:((List.range len).mapM fun i=>(w.cells? 0 (a.add (i*P.cellsOf e)) (P.cellsOf e)).bind (DataW.trod enc P w 0 (fun _=>true) true k e)) with
    | none=>rw[he]at h;cases h
    | some elems=>
     rw[he]at h
     simp only[Option.bind_some]at h
     cases hr:((List.range (cap-len)).mapM fun j=>(w.cells? 0 (a.add ((len+j)*P.cellsOf e)) (P.cellsOf e)).bind (DataW.trod enc P w 0 (fun _=>true) true k e)) with
     | none=>rw[hr]at h;cases h
     | some rest=>
      rw[hr]at h
      simp only[Option.map_some,Option.some.injEq,Prod.mk.injEq]at h
      obtain⟨rfl,_⟩:=h
      obtain⟨l1,g1⟩:=Vp he
      obtain⟨l2,_⟩:=Vp hr
      rw[List.length_range]at l1 l2
      simp only[DataW.weights,hu,List.all_cons,List.all_append,Bool.and_eq_true,List.length_map,decide_eq_true_eq]at hw
      refine⟨_,_,_,rfl,Pe.2.1,?_,fun hlen hce=>?_⟩
      ·have:elems.length+rest.length=cap:=by omega
       rw[←this];exact hw.1
      ·have ZcB:∀i,i<len→∃ds x,w.cells? 0 (a.add (i*P.cellsOf e)) (P.cellsOf e)=some ds∧elems[i]? = some x∧DataW.trod enc P w 0 (fun _=>true) true k e ds=some x:=by
        intro i hi
        have hx:elems[i]? = some elems[i]:=List.getElem?_eq_getElem (by omega)
        have:=g1 i i elems[i] (by rw[List.getElem?_range hi]) hx
        cases hc:w.cells? 0 (a.add (i*P.cellsOf e)) (P.cellsOf e) with
        | none=>rw[hc]at this;cases this
        | some ds=>rw[hc]at this;exact⟨ds,_,rfl,hx,this⟩
       obtain⟨ds0,x0,bH,_,_⟩:=ZcB 0 (by omega)
       obtain⟨q1,q2⟩:=Lj bH
       have e0:a.add (0*P.cellsOf e)=a:=by simp[Addr.add]
       rw[e0]at q2
       have SY:a.spot=none:=ff (q2 0 (by omega)) rfl
       have yR:w.cell? a=some ds0[0]:=by have:=q2 0 (by omega);simpa [Addr.add] using this
       have ZA:a.block<w.heap.size:=Q9 (h:=w.heap) (p:=a) (v:=ds0[0]) yR
       refine⟨a.block,a.off,?_,ZA,fun i hi=>?_⟩
       ·obtain⟨b,o,s⟩:=a;simp only at SY;subst SY;rfl
       ·obtain⟨ds,x,hc,hx,ht⟩:=ZcB i hi
        obtain⟨r1,r2⟩:=Lj hc
        refine⟨ds,r1,fun j hj=>?_,?_⟩
        ·have:=r2 j hj
         rw[Ss a _ SY,YQ]at this
         exact this
        ·refine Wq k e ds x.1 x.2 ht ?_
         exact UT _ hw.2.1 i x.1 (by rw[List.getElem?_map,hx];rfl)
   ·cases h
  ·rename_i cs _ _ fs hu
   rw[hu]
   split at h
   ·rename_i hlen
    cases hm:(fs.toList.mapM fun f=>DataW.trod enc P w 0 (fun _=>true) true k f.type ((cs.drop f.offset).take (P.cellsOf f.type))) with
    | none=>rw[hm]at h;cases h
    | some xs=>
     rw[hm]at h
     simp only[Option.map_some,Option.some.injEq,Prod.mk.injEq]at h
     obtain⟨rfl,_⟩:=h
     obtain⟨l1,g1⟩:=Vp hm
     refine⟨hlen,fun f hf=>?_⟩
     obtain⟨i,hi,FM⟩:=List.mem_iff_getElem.1 hf
     have hx:xs[i]? = some xs[i]:=List.getElem?_eq_getElem (by omega)
     have ZcC:fs.toList[i]? = some f:=by rw[List.getElem?_eq_getElem hi,FM]
     refine Wq k _ _ xs[i].1 xs[i].2 (g1 i f xs[i] ZcC hx) ?_
     simp only[DataW.weights,hu]at hw
     exact Tu _ _ hw i f.type xs[i].1 (by rw[List.getElem?_map,ZcC];rfl) (by rw[List.getElem?_map,hx];rfl)
   ·cases h
  ·rename_i cs _ _ n e hu
   rw[hu]
   split at h
   ·rename_i hlen
    cases hm:((List.range n).mapM fun i=>DataW.trod enc P w 0 (fun _=>true) true k e ((cs.drop (i*P.cellsOf e)).take (P.cellsOf e))) with
    | none=>rw[hm]at h;cases h
    | some xs=>
     rw[hm]at h
     simp only[Option.map_some,Option.some.injEq,Prod.mk.injEq]at h
     obtain⟨rfl,_⟩:=h
     obtain⟨l1,g1⟩:=Vp hm
     rw[List.length_range]at l1
     refine⟨hlen,fun i hi=>?_⟩
     have hx:xs[i]? = some xs[i]:=List.getElem?_eq_getElem (by omega)
     refine Wq k _ _ xs[i].1 xs[i].2 (g1 i i xs[i] (by rw[List.getElem?_range hi]) hx) ?_
     simp only[DataW.weights,hu]at hw
     exact UT _ hw i xs[i].1 (by rw[List.getElem?_map,hx];rfl)
   ·cases h
  all_goals first|(cases h;done)|(rename_i hu;rw[hu];trivial)
theorem sf {P:Program} {w:World} {r:Reach} {base:Nat} {t:TypeId} {cs:Array Value} (ha:ta P t=some false) (h:Value.okWide P w r base t (.agg cs)):False:=by
 unfold ta at ha
 unfold Value.okWide at h
 cases hu:P.underlying t with
 | none=>rw[hu]at ha;cases ha
 | some d=>
  rw[hu]at ha h
  cases d<;>simp at ha<;>simp[Cell.okWide,Cell.ok,hu]at h
theorem sj {H:Type} {enc:TypeId × Value→H} {P:Program} {w:World} {r:Reach} {base:Nat} {t:TypeId} {v:Value} {d:DataW H} {ps:List MemPlace}
  (CF:(ta P t).isSome=true) (Jk:Value.okWide P w r base t v) (h:DataW.Trod enc P w 0 (fun _=>true) true t v d ps) (hw:(d.weights P t).all (· ≤ reachBytes)=true):∃k,fc P w.heap k t v:=by
 obtain⟨k,hk⟩:=h
 have hf:=Wq k t _ d ps hk hw
 refine⟨k,?_⟩
 unfold fc
 cases ha:ta P t with
 | none=>rw[ha]at CF;cases CF
 | some b=>
  cases b with
  | true=>
   unfold ta at ha
   unfold Value.okWide at Jk
   cases hu:P.underlying t with
   | none=>rw[hu]at ha;cases ha
   | some d'=>
    rw[hu]at ha Jk
    have:∃cs,v=.agg cs:=by
     cases d'<;>simp at ha<;>(obtain⟨cs,hv,_⟩:=Jk;exact⟨cs,hv⟩)
    obtain⟨cs,rfl⟩:=this
    exact⟨cs.toList,by simp,hf⟩
  | false=>
   have:v.cells.toList=[v]:=by
    cases v with
    | agg cs=>exact (sf ha Jk).elim
    | _=>rfl
   rw[this]at hf
   exact hf
theorem IZ {H:Type} {enc:TypeId × Value→H} {P:Program} {w:World} {base:Nat}:∀(ts:List TypeId) (vs:List Value) (ds:List (DataW H)) (ps:List MemPlace),
  ts.all (fun t=>(ta P t).isSome)=true→(∀(j:Nat) t v,ts[j]? = some t→vs[j]? = some v→Value.okWide P w .any base t v)→DataW.TrodAll enc P w 0 (fun _=>true) true ts vs ds ps →
  (DataW.weightsEach P ts ds).all (· ≤ reachBytes)=true→fitAll P w.heap ts vs
 | [],vs,ds,ps,_,_,h,_=>by
  obtain⟨rfl,rfl,rfl⟩:=trodAll_nil h
  trivial
 | t :: ts,vs,ds,ps,ha,hv,h,hw=>by
  obtain⟨v,wC,d,ds',p,q,rfl,rfl,rfl,h1,h2⟩:=trodAll_cons h
  simp only[List.all_cons,Bool.and_eq_true]at ha
  simp only[DataW.weightsEach,List.all_append,Bool.and_eq_true]at hw
  exact⟨sj ha.1 (hv 0 t v rfl rfl) h1 hw.1,IZ ts wC ds' q ha.2 (fun j t v ht Ee=>hv (j+1) t v ht Ee) h2 hw.2⟩
theorem SZ {H:Type} {enc:TypeId × Value→H} {P:Program} (hl:laidOutB P=true) {W W':World} (hb:Below W.heap.size W W'):∀(ts:List TypeId) (vs:List Value) (ds:List (DataW H)) (ps:List MemPlace),
  ts.all (fun t=>P.readableRec t&&decide (t<P.types.size))=true→DataW.TrodAll enc P W 0 (fun _=>true) true ts vs ds ps→(∀x∈ps,x.block<W.heap.size) →
  DataW.TrodAll enc P W' 0 (fun b=>decide (b<W.heap.size)) true ts vs ds ps
 | [],vs,ds,ps,_,h,_=>by
  obtain⟨rfl,rfl,rfl⟩:=trodAll_nil h
  rfl
 | t :: ts,vs,ds,ps,ha,h,ZA=>by
  obtain⟨v,wC,d,ds',p,q,rfl,rfl,rfl,h1,h2⟩:=trodAll_cons h
  simp only[List.all_cons,Bool.and_eq_true,decide_eq_true_eq]at ha
  exact⟨p,q,Below.trod hl ha.1.1 ha.1.2 h1 hb (fun x hx=>ZA x (by simp[hx])),SZ hl hb ts wC ds' q ha.2 h2 (fun x hx=>ZA x (by simp[hx])),rfl⟩
theorem TJ {H:Type} {enc:TypeId × Value→H} {P:Program} {w:World} {b:Nat} {sp:Nat→Bool} {hd:Bool}:∀(ts:List TypeId) (vs:List Value) (ds:List (DataW H)) (ps:List MemPlace),DataW.TrodAll enc P w b sp hd ts vs ds ps→ds.length=ts.length
 | [],vs,ds,ps,h=>by obtain⟨rfl,rfl,rfl⟩:=trodAll_nil h;rfl
 | t :: ts,vs,ds,ps,h=>by
  obtain⟨v,wC,d,ds',p,q,rfl,rfl,rfl,h1,h2⟩:=trodAll_cons h
  simp[TJ ts wC ds' q h2]
theorem kS {W W':World} {h':Hp} (hs:WN W W' h') (hb:Ze W.heap.size W.heap h'):Below W.heap.size W W':=
 ⟨hs.os,hs.tape,hs.output,by rw[hs.heap];exact hb.size,fun k hk=>by rw[hs.heap];exact hb.block k hk⟩
theorem kT {P:Program} {rest:List (List Char)} (h:behindMainWord (wordsSigns P.initOrder.toList) = "cut".toList :: rest):P.make=some .cut:=by
 unfold Program.make
 rw[h]
 simp only
 rw[if_neg (by decide),if_pos (by rfl)]
theorem I0 (rest:List (List Char)):stripLifts liftWords ("cut".toList :: rest)=([], "cut".toList :: rest):=by rfl
theorem fg {P:Program} {rest:List (List Char)} (h:behindMainWord (wordsSigns P.initOrder.toList) = "cut".toList :: rest):P.liftsFinal=false:=by
 unfold Program.liftsFinal Program.headLifts
 rw[h,I0]
 rfl
theorem fh {P:Program} {rest:List (List Char)} (h:behindMainWord (wordsSigns P.initOrder.toList) = "cut".toList :: rest) (h1:P.laysLater=false) (h2:P.bearsReflect=false) (h3:P.doorFits []=true):P.mayEnter=true:=by
 unfold Program.mayEnter
 rw[h]
 simp only[I0,h1,h2,h3]
 rw[Bool.or_eq_true]
 exact .inr rfl
theorem fi {P:Program} {L:List Char} (h:P.initOrder=String.ofList L) (h2:((behindMainWord (wordsSigns L)).head? == some "cut".toList)=true):∃rest,behindMainWord (wordsSigns P.initOrder.toList) = "cut".toList :: rest:=by
 rw[h,String.toList_ofList]
 revert h2
 cases behindMainWord (wordsSigns L) with
 | nil=>intro h;cases h
 | cons a l=>
  intro h
  have h':a = "cut".toList:=by
   have:=eq_of_beq h
   simpa using this
  exact⟨l,by rw[h']⟩
end Go.V
