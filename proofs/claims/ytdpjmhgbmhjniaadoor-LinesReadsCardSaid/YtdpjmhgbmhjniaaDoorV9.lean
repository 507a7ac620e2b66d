/- Part V9. -/
import Derived.Calls
import Derived.OrdersHeld
import Derived.Still
import Derived.Tactics
import Derived.Laws.Sem
import Derived.KernelRfl
import Derived.IntWalk
import Derived.Laws.Strings
import Derived.WalkKit
import Derived.ProofKit
import Derived.OpenShut
import Derived.SizedLaws
import Derived.JoinedCond
import Derived.Deep.CondSized
import Derived.Carry
namespace Go.V
theorem ZE {α:Type} (x:α):∃y,y=x:=⟨x,rfl⟩
abbrev Env:=Nat→Value
def Jo (F:Env) (d:Nat) (v:Value):Env:=fun t=>if t=d then v else F t
def Zl (F:Env):Option Nat→Value→Env
 | none,_=>F
 | some d,v=>Jo F d v
def ev (F:Env):Operand→Value
 | .tmp t=>F t
 | .const v=>v
 | .global g=>.pointer (some ⟨g,0,none⟩)
 | .func f=>.func (.func f) #[] #[]
def JE:List Value→Nat→Env
 | [],_=>fun _=>undef
 | v :: l,k=>Jo (JE l (k+1)) k v
def env (a:Act):Env:=fun t=>a.tmps.getD t undef
theorem Yl (a:Act):a.eval=ev (env a):=by
 funext x;cases x<;>rfl
theorem Ym (a:Act) (dst:Option Nat) (v:Value) (h:∀d,dst=some d→d<a.tmps.size):env (a.put dst v)=Zl (env a) dst v:=by
 cases dst with
 | none=>rfl
 | some d=>
  funext t
  have hd:=h d rfl
  simp only[env,Act.put,Zl,Jo,Array.getD_eq_getD_getElem?,Array.getElem?_setIfInBounds]
  by_cases GJ:d=t
  ·subst GJ;simp[hd]
  ·rw[if_neg GJ,if_neg (fun h=>GJ h.symm)]
theorem size_put (a:Act) (dst:Option Nat) (v:Value):(a.put dst v).tmps.size=a.tmps.size:=by
 cases dst<;>simp[Act.put]
abbrev Hp:=Array Obj
structure ZT (T:World) (w:World) (h:Hp):Prop where
 heap:w.heap=h
 tape:w.tape=T.tape
 os:w.os=T.os
 output:w.output=T.output
def hc (h:Hp) (a:Addr):Option Value:=
 match h[a.block]? with
 | some (.cells c _ _)=>if a.spot.isSome then none else c[a.off]?
 | _=>none
def Z5 (h:Hp) (r:Nat):Option (TypeId × Nat):=
 match h[r]? with
 | some (.cells c elem _)=>some (elem,c.size)
 | _=>none
def NA (h:Hp) (a:Addr):Bool:=
 match h[a.block]? with
 | some (.cells _ _ (lo,hi))=>lo≤a.off&&a.off<hi
 | _=>false
def SW (h:Hp) (a:Addr) (v:Value):Hp:=
 h.modify a.block fun
  | .cells c elem frozen=>.cells (if a.spot.isSome then c else c.setIfInBounds a.off v) elem frozen
  | o=>o
def JF (h:Hp) (a:Addr) (n:Nat):Hp:=
 if n=0 then h else
 h.modify a.block fun
  | .cells c elem (lo,hi)=>.cells c elem (if lo == hi then (a.off,a.off+n) else (min lo a.off,max hi (a.off+n)))
  | o=>o
def QJ:Obj→Bool
 | .cells .. => true
 | _=>false
def Yb:Value→Bool
 | .agg _|.tuple _=>false
 | _=>true
def hw {α:Type} (P:Program):Sem α→(α→Hp→Prop)→Hp→Prop
 | .pure a,Q,h=>Q a h
 | .load _ a k,Q,h=>∃v,hc h a=some v∧hw P (k v) Q h
 | .store _ a v k,Q,h=>Yb v=true∧(∃u,hc h a=some u)∧NA h a=false∧hw P k Q (SW h a v)
 | .new o k,Q,h=>hw P (k h.size) Q (h.push o)
 | .shape r k,Q,h=>hw P (k (Z5 h r)) Q h
 | .freeze a n k,Q,h=>hw P k Q (JF h a n)
 | .frozen a k,Q,h=>hw P (k (NA h a)) Q h
 | .getObj r k,Q,h=>∃o,h[r]? = some o∧QJ o=false∧hw P (k o) Q h
 | .setObj r o k,Q,h=>(∃o',h[r]? = some o'∧QJ o'=false)∧hw P k Q (h.setIfInBounds r o)
 | .choose q k,Q,h=>if q.forced then hw P (k 0) Q h else ∀t,hw P (k (q.cut t)) Q h
 | .sys _ _,_,_=>False
 | .program k,Q,h=>hw P (k P) Q h
 | .mark _ k,Q,h=>hw P k Q h
 | .halt _,_,_=>False
theorem Pu {α:Type} {P:Program} {T:World}:∀(s:Sem α) (Q:α→Hp→Prop) (h:Hp),hw P s Q h→∀w,ZT T w h →
  ∃a w' h',s.run P w=.ok a w'∧ZT T w' h'∧Q a h':=by
 intro s
 induction s with
 | pure a=>intro Q h H w hs;exact⟨a,w,h,rfl,hs,H⟩
 | load m a k ih=>
  intro Q h H w hs
  obtain⟨v,hv,H⟩:=H
  obtain⟨a',w',h',hr,r⟩:=ih v Q h H w hs
  refine⟨a',w',h',?_,r⟩
  have:w.cell? a=some v:=by rw[World.cell?,hs.heap];exact hv
  rw[Sem.run,this];exact hr
 | store m a v k ih=>
  intro Q h H w hs
  obtain⟨h1,⟨u,h2⟩,h3,H⟩:=H
  have X3:ZT T (w.setCell a v) (SW h a v):=⟨by simp only[World.setCell,SW,hs.heap];rfl,hs.tape,hs.os,hs.output⟩
  obtain⟨a',w',h',hr,r⟩:=ih Q _ H _ X3
  refine⟨a',w',h',?_,r⟩
  have e1:w.cell? a=some u:=by rw[World.cell?,hs.heap];exact h2
  have e2:w.frozen? a=false:=by rw[World.frozen?,hs.heap];exact h3
  cases v<;>first|(simp[Yb]at h1;done)|(simp only[Sem.run,e1,e2,Bool.false_eq_true,if_false];exact hr)
 | new o k ih=>
  intro Q h H w hs
  have X3:ZT T { w with heap:=w.heap.push o } (h.push o):=⟨by simp only[hs.heap],hs.tape,hs.os,hs.output⟩
  have e:w.heap.size=h.size:=by rw[hs.heap]
  obtain⟨a',w',h',hr,r⟩:=ih h.size Q _ H _ X3
  refine⟨a',w',h',?_,r⟩
  rw[Sem.run,e];exact hr
 | shape r k ih=>
  intro Q h H w hs
  obtain⟨a',w',h',hr,r'⟩:=ih _ Q h H w hs
  refine⟨a',w',h',?_,r'⟩
  have:w.shape? r=Z5 h r:=by rw[World.shape?,hs.heap];rfl
  rw[Sem.run,this];exact hr
 | freeze a n k ih=>
  intro Q h H w hs
  have X3:ZT T (w.freeze a n) (JF h a n):=by
   unfold World.freeze JF
   split
   ·exact hs
   ·exact⟨by simp only[hs.heap];rfl,hs.tape,hs.os,hs.output⟩
  obtain⟨a',w',h',hr,r'⟩:=ih Q _ H _ X3
  exact⟨a',w',h',by rw[Sem.run];exact hr,r'⟩
 | frozen a k ih=>
  intro Q h H w hs
  obtain⟨a',w',h',hr,r'⟩:=ih _ Q h H w hs
  refine⟨a',w',h',?_,r'⟩
  have:w.frozen? a=NA h a:=by rw[World.frozen?,hs.heap];rfl
  rw[Sem.run,this];exact hr
 | getObj r k ih=>
  intro Q h H w hs
  obtain⟨o,ho,hc,H⟩:=H
  obtain⟨a',w',h',hr,r'⟩:=ih o Q h H w hs
  refine⟨a',w',h',?_,r'⟩
  have e:w.heap[r]? = some o:=by rw[hs.heap];exact ho
  simp only[Sem.run,e]
  cases o<;>first|(simp[QJ]at hc;done)|exact hr
 | setObj r o k ih=>
  intro Q h H w hs
  obtain⟨⟨o',ho,hc⟩,H⟩:=H
  have X3:ZT T { w with heap:=w.heap.setIfInBounds r o } (h.setIfInBounds r o):=⟨by simp only[hs.heap],hs.tape,hs.os,hs.output⟩
  obtain⟨a',w',h',hr,r'⟩:=ih Q _ H _ X3
  refine⟨a',w',h',?_,r'⟩
  have e:w.heap[r]? = some o':=by rw[hs.heap];exact ho
  simp only[Sem.run,e]
  cases o'<;>first|(simp[QJ]at hc;done)|exact hr
 | choose q k ih=>
  intro Q h H w hs
  simp only[hw]at H
  split at H
  ·rename_i hq
   obtain⟨a',w',h',hr,r'⟩:=ih _ Q h H w hs
   exact⟨a',w',h',by rw[Sem.run,if_pos hq];exact hr,r'⟩
  ·rename_i hq
   have X3:ZT T { w with drawn:=w.drawn+1 } h:=⟨hs.heap,hs.tape,hs.os,hs.output⟩
   obtain⟨a',w',h',hr,r'⟩:=ih _ Q h (H (w.tape w.drawn q)) _ X3
   exact⟨a',w',h',by rw[Sem.run,if_neg hq];exact hr,r'⟩
 | sys c k ih=>intro Q h H;exact H.elim
 | program k ih=>
  intro Q h H w hs
  obtain⟨a',w',h',hr,r'⟩:=ih _ Q h H w hs
  exact⟨a',w',h',by rw[Sem.run];exact hr,r'⟩
 | mark m k ih=>
  intro Q h H w hs
  obtain⟨a',w',h',hr,r'⟩:=ih Q h H w hs
  exact⟨a',w',h',by rw[Sem.run];exact hr,r'⟩
 | halt x=>intro Q h H;exact H.elim
theorem Za {α β:Type} {P:Program} (s:Sem α) (f:α→Sem β) (Q:β→Hp→Prop):∀h,hw P (s >>= f) Q h=hw P s (fun a h'=>hw P (f a) Q h') h:=by
 show ∀h,hw P (s.bind f) Q h=_
 induction s with
 | pure a=>intro h;rfl
 | load m a k ih=>intro h;simp only[Sem.bind,hw,ih]
 | store m a v k ih=>intro h;simp only[Sem.bind,hw,ih]
 | new o k ih=>intro h;simp only[Sem.bind,hw,ih]
 | shape r k ih=>intro h;simp only[Sem.bind,hw,ih]
 | freeze a n k ih=>intro h;simp only[Sem.bind,hw,ih]
 | frozen a k ih=>intro h;simp only[Sem.bind,hw,ih]
 | getObj r k ih=>intro h;simp only[Sem.bind,hw,ih]
 | setObj r o k ih=>intro h;simp only[Sem.bind,hw,ih]
 | choose q k ih=>intro h;simp only[Sem.bind,hw,ih]
 | sys c k ih=>intro h;simp only[Sem.bind,hw]
 | program k ih=>intro h;simp only[Sem.bind,hw,ih]
 | mark m k ih=>intro h;simp only[Sem.bind,hw,ih]
 | halt x=>intro h;rfl
theorem Sw {α:Type} {P:Program} {Q Q':α→Hp→Prop} (hq:∀a h,Q a h→Q' a h):∀(s:Sem α) (h:Hp),hw P s Q h→hw P s Q' h:=by
 intro s
 induction s with
 | pure a=>intro h H;exact hq _ _ H
 | load m a k ih=>intro h H;obtain⟨v,hv,H⟩:=H;exact⟨v,hv,ih _ _ H⟩
 | store m a v k ih=>intro h H;obtain⟨h1,h2,h3,H⟩:=H;exact⟨h1,h2,h3,ih _ H⟩
 | new o k ih=>intro h H;exact ih _ _ H
 | shape r k ih=>intro h H;exact ih _ _ H
 | freeze a n k ih=>intro h H;exact ih _ H
 | frozen a k ih=>intro h H;exact ih _ _ H
 | getObj r k ih=>intro h H;obtain⟨o,h1,h2,H⟩:=H;exact⟨o,h1,h2,ih _ _ H⟩
 | setObj r o k ih=>intro h H;obtain⟨h1,H⟩:=H;exact⟨h1,ih _ H⟩
 | choose q k ih=>
  intro h H
  simp only[hw]at H ⊢
  split at H
  ·rename_i hf;rw[if_pos hf];exact ih _ _ H
  ·rename_i hf;rw[if_neg hf];exact fun t=>ih _ _ (H t)
 | sys c k ih=>intro h H;exact H
 | program k ih=>intro h H;exact ih _ _ H
 | mark m k ih=>intro h H;exact ih _ H
 | halt x=>intro h H;exact H
def Zf (P:Program) (T:World) (f:FuncId) (args:Array Value) (h:Hp) (Q:Value→Hp→Prop):Prop:=
 ∀w,ZT T w h→Calls P f args w fun e w'=>∃v h',e=.returned v∧ZT T w' h'∧Q v h'
theorem Zf.mono {P:Program} {T:World} {f:FuncId} {args:Array Value} {h:Hp} {Q Q':Value→Hp→Prop} (H:Zf P T f args h Q)
  (hq:∀v h',Q v h'→Q' v h'):Zf P T f args h Q':=
 fun w hs=>(H w hs).mono fun _ _ ⟨v,h',he,X3,q⟩=>⟨v,h',he,X3,hq _ _ q⟩
def Z9 (P:Program) (T:World) (K:Value→Hp→Prop):Next→Hp→Prop
 | .value v,h=>K v h
 | .skip,h=>K undef h
 | .enter f args,h=>Zf P T f args h K
 | _,_=>False
def WW (P:Program) (T:World) (o:Oper) (K:Value→Hp→Prop) (F:Env) (h:Hp):Prop:=
 hw P (execOp (ev F) o) (Z9 P T K) h
theorem QU {P:Program} {T:World} {K K':Value→Hp→Prop} (hk:∀v h,K v h→K' v h):∀(x:Next) (h:Hp),Z9 P T K x h→Z9 P T K' x h:=by
 intro x h H
 cases x<;>simp only[Z9]at H ⊢<;>first|exact hk _ _ H|exact H.mono hk
theorem JG {P:Program} {T:World} {o:Oper} {K K':Value→Hp→Prop} {F:Env} {h:Hp} (hk:∀v h,K v h→K' v h) (H:WW P T o K F h):WW P T o K' F h:=
 Sw (QU hk) _ _ H
theorem Qb {P:Program} {T:World} {o:Oper} {K:Value→Hp→Prop} {F:Env} {h:Hp} (H:WW P T o K F h) {a:Act} {w:World} (hF:env a=F) (hs:ZT T w h)
  {next:Act→World→Prop} {Q:Exit→Act→World→Prop} (hk:∀v w' h',ZT T w' h'→K v h'→next (a.put o.dst v) w'):o.wp P a w next Q:=by
 obtain⟨x,w',h',hr,X3,hx⟩:=Pu _ _ _ H w hs
 unfold Oper.wp
 rw[Yl,hF,hr]
 cases x<;>simp only[Z9]at hx
 case value v=>exact hk _ _ _ X3 hx
 case skip=>exact hk _ _ _ X3 hx
 case enter f args=>
  simp only[Oper.upon]
  exact (hx w' X3).mono fun e Ai ⟨v,Qc,he,GK,q⟩=>by subst he;exact hk _ _ _ GK q
def YD (ops:Array Oper) (F:Env) (j:Nat):Option Bool:=
 match (ops[j]?).bind (·.dst) with
 | some t=>match F t with
  | .bool b=>some b
  | _=>none
 | none=>none
def Zp (ops:Array Oper) (o:Oper) (F:Env):Bool:=Region.wanted o (YD ops F)
def Pv (n:Nat) (o:Oper):Bool:=match o.dst with|some d=>Nat.blt d n|none=>true
def XC (n:Nat) (ops:Array Oper):Bool:=ops.toList.all (Pv n)
theorem Xs {n:Nat} {o:Oper} (h:Pv n o=true):∀d,o.dst=some d→d<n:=by
 intro d hd
 unfold Pv at h
 rw[hd]at h
 exact Nat.blt_eq.mp h
theorem XP {n:Nat} {ops:Array Oper} (ZN:XC n ops=true) (a:Act) (hn:a.tmps.size=n):yielded ops a.tmps=YD ops (env a):=by
 funext j
 unfold yielded YD
 cases hj:ops[j]? with
 | none=>rfl
 | some o=>
  simp only[Option.bind_some]
  cases hd:o.dst with
  | none=>rfl
  | some d=>
   have ZH:d<a.tmps.size:=by
    rw[hn]
    have hm:o∈ops.toList:=by
     have:=Array.mem_of_getElem? hj
     simpa using this
    exact Xs (List.all_eq_true.1 ZN o hm) d hd
   simp only[Option.bind_some]
   rw[Array.getElem?_eq_getElem ZH]
   have:env a d=a.tmps[d]:=by simp[env,ZH]
   rw[this]
   cases a.tmps[d]<;>rfl
def UD (P:Program) (T:World) (ops:Array Oper) (N:Env→Hp→Prop):List Oper→Env→Hp→Prop
 | [],F,h=>N F h
 | o :: l,F,h=>
  if Zp ops o F then WW P T o (fun v h'=>UD P T ops N l (Zl F o.dst v) h') F h
  else UD P T ops N l (Zl F o.dst undef) h
def SX (n:Nat) (T:World) (N:Env→Hp→Prop) (X:Nat→Env→Hp→Prop) (R:Env→Hp→Prop) (e:Exit) (a:Act) (w:World):Prop:=
 a.tmps.size=n∧a.defers=[]∧∃h,ZT T w h∧match e with
  | .normal=>N (env a) h
  | .exit j=>X j (env a) h
  | .ret=>R (env a) h
  | _=>False
def VS (P:Program) (n:Nat) (T:World) (c:Code) (N:Env→Hp→Prop) (X:Nat→Env→Hp→Prop) (R:Env→Hp→Prop) (F:Env) (h:Hp):Prop:=
 ∀a w,a.tmps.size=n→a.defers=[]→env a=F→ZT T w h→c.wp P (SX n T N X R) a w
section
variable {P:Program} {n:Nat} {T:World} {N:Env→Hp→Prop} {X:Nat→Env→Hp→Prop} {R:Env→Hp→Prop} {F:Env} {h:Hp}
theorem VS.mono {c:Code} {N':Env→Hp→Prop} {X':Nat→Env→Hp→Prop} {R':Env→Hp→Prop} (H:VS P n T c N X R F h)
  (hN:∀F h,N F h→N' F h) (hX:∀j F h,X j F h→X' j F h) (hR:∀F h,R F h→R' F h):VS P n T c N' X' R' F h:=by
 intro a w h1 h2 h3 h4
 refine Code.wp_mono (fun e a w ⟨q1,q2,h,q3,q4⟩=>⟨q1,q2,h,q3,?_⟩) (H a w h1 h2 h3 h4)
 cases e<;>simp only at q4 ⊢<;>first|exact hN _ _ q4|exact hX _ _ _ q4|exact hR _ _ q4
theorem VS.seq {c d:Code} (H:VS P n T c (fun F h=>VS P n T d N X R F h) X R F h):VS P n T (.seq c d) N X R F h:=by
 intro a w h1 h2 h3 h4
 refine wp_seq (Code.wp_mono (fun e a w ⟨q1,q2,h,q3,q4⟩=>?_) (H a w h1 h2 h3 h4))
 cases e with
 | normal=>exact q4 a w q1 q2 rfl q3
 | exit j=>exact⟨q1,q2,h,q3,q4⟩
 | ret=>exact⟨q1,q2,h,q3,q4⟩
 | _=>exact q4.elim
theorem VS.skip (H:N F h):VS P n T .skip N X R F h:=by
 intro a w h1 h2 h3 h4
 exact wp_skip ⟨h1,h2,h,h4,by rw[h3];exact H⟩
theorem VS.ret (H:R F h):VS P n T .ret N X R F h:=by
 intro a w h1 h2 h3 h4
 exact wp_ret ⟨h1,h2,h,h4,by rw[h3];exact H⟩
theorem VS.exit {j:Nat} (H:X j F h):VS P n T (.exit j) N X R F h:=by
 intro a w h1 h2 h3 h4
 exact wp_exit ⟨h1,h2,h,h4,by rw[h3];exact H⟩
theorem VS.block {j:Nat} {c:Code} (H:VS P n T c N (fun i F h=>if i=j then N F h else X i F h) R F h):VS P n T (.block j c) N X R F h:=by
 intro a w h1 h2 h3 h4
 refine wp_block (Code.wp_mono (fun e a w ⟨q1,q2,h,q3,q4⟩=>?_) (H a w h1 h2 h3 h4))
 cases e with
 | normal=>exact⟨q1,q2,h,q3,q4⟩
 | exit i=>
  simp only[Exit.inBlock]
  simp only at q4
  split
  ·rename_i Pj;rw[if_pos Pj]at q4;exact⟨q1,q2,h,q3,q4⟩
  ·rename_i Pj;rw[if_neg Pj]at q4;exact⟨q1,q2,h,q3,q4⟩
 | ret=>exact⟨q1,q2,h,q3,q4⟩
 | _=>exact q4.elim
theorem VS.cond {c:Operand} {x y:Code} {b:Bool} (hc:ev F c=.bool b) (ht:b=true→VS P n T x N X R F h) (hf:b=false→VS P n T y N X R F h) :
  VS P n T (.cond c x y) N X R F h:=by
 intro a w h1 h2 h3 h4
 refine wp_cond_split (t:=b) (by rw[Yl,h3];exact hc) (fun hb=>ht hb a w h1 h2 h3 h4) (fun hb=>hf hb a w h1 h2 h3 h4)
theorem VS.loop {c:Code} (I:Env→Hp→Prop) (μ:Env→Hp→Nat) (h0:I F h)
  (round:∀F h,I F h→VS P n T c (fun F' h'=>I F' h'∧μ F' h'<μ F h) X R F h):VS P n T (.loop c) N X R F h:=by
 intro a w h1 h2 h3 h4
 refine wp_loop (fun a w=>a.tmps.size=n∧a.defers=[]∧ZT T w w.heap∧I (env a) w.heap) (fun a w=>μ (env a) w.heap)
  ⟨h1,h2,by rw[h4.heap];exact h4,by rw[h3,h4.heap];exact h0⟩ ?_
 intro a w ⟨q1,q2,q3,q4⟩
 refine Code.wp_mono (fun e a' w' ⟨p1,p2,h',p3,p4⟩=>?_) (round (env a) w.heap q4 a w q1 q2 rfl q3)
 cases e with
 | normal=>
  have e:=p3.heap
  subst e
  exact⟨⟨p1,p2,p3,p4.1⟩,p4.2⟩
 | exit j=>exact⟨p1,p2,h',p3,p4⟩
 | ret=>exact⟨p1,p2,h',p3,p4⟩
 | _=>exact p4.elim
theorem Yn {ops:Array Oper} (ZN:XC n ops=true):∀(l:List Oper) (F:Env) (h:Hp),(∀o∈l,o∈ops.toList)→UD P T ops N l F h →
  ∀a w,a.tmps.size=n→a.defers=[]→env a=F→ZT T w h→wpList P ops (SX n T N X R) l a w
 | [],F,h,_,H,a,w,h1,h2,h3,h4=>⟨h1,h2,h,h4,by rw[h3];exact H⟩
 | o :: l,F,h,hm,H,a,w,h1,h2,h3,h4=>by
  have hd:∀d,o.dst=some d→d<a.tmps.size:=by
   rw[h1];exact Xs (List.all_eq_true.1 ZN o (hm o (by simp)))
  have Ns:∀o∈l,o∈ops.toList:=fun x hx=>hm x (by simp[hx])
  have WX:Region.wanted o (yielded ops a.tmps)=Zp ops o F:=by rw[XP ZN a h1,h3];rfl
  unfold wpList
  rw[WX]
  unfold UD at H
  split at H
  ·rename_i hw
   rw[if_pos hw]
   refine .inl (Qb H h3 h4 fun v w' h' X3 hk=>?_)
   exact Yn ZN l _ h' Ns hk _ _ (by rw[size_put,h1]) (by cases o.dst<;>exact h2) (by rw[Ym a _ _ hd,h3]) X3
  ·rename_i hw
   rw[if_neg hw]
   exact Yn ZN l _ h Ns H _ _ (by rw[size_put,h1]) (by cases o.dst<;>exact h2) (by rw[Ym a _ _ hd,h3]) h4
theorem VS.region {id:Nat} {ops:Array Oper} (ZN:XC n ops=true) (H:UD P T ops N ops.toList F h):VS P n T (.region id ops false) N X R F h:=by
 intro a w h1 h2 h3 h4
 exact wp_region_list (Yn ZN ops.toList F h (fun _ h=>h) H a w h1 h2 h3 h4)
def Yd (P:Program) (T:World) (ops:Array Oper) (i:Nat) (K:Env→Hp→Prop) (F:Env) (h:Hp):Prop:=
 match ops[i]? with
 | none=>K F h
 | some o=>if Zp ops o F then WW P T o (fun v h'=>K (Zl F o.dst v) h') F h else K (Zl F o.dst undef) h
theorem ZR {ops:Array Oper} {i:Nat} {K K':Env→Hp→Prop} (hk:∀F h,K F h→K' F h) {F:Env} {h:Hp} (H:Yd P T ops i K F h):Yd P T ops i K' F h:=by
 unfold Yd at *
 split at H
 ·exact hk _ _ H
 ·split at H
  ·rename_i hw;rw[if_pos hw];exact JG (fun _ _ q=>hk _ _ q) H
  ·rename_i hw;rw[if_neg hw];exact hk _ _ H
def Ta (P:Program) (T:World) (ops:Array Oper) (S:Hp→Prop) (N:Env→Hp→Prop):Nat→Array Bool→Env→Hp→Prop
 | 0,listed,F,h=>Region.ready .any ops listed=[]∧N F h
 | k+1,listed,F,h=>(Region.ready .any ops listed=[]→N F h) ∧
   ∀i∈Region.ready .any ops listed,Yd P T ops i (fun F' h'=>S h'∧Ta P T ops S N k (listed.setIfInBounds i true) F' h') F h
theorem ZQ {ops:Array Oper} {S:Hp→Prop} (ZN:XC n ops=true):∀(k:Nat) (listed:Array Bool) (F:Env) (h:Hp),Ta P T ops S N k listed F h →
  ∀a w,a.tmps.size=n→a.defers=[]→env a=F→ZT T w h→wpAny P .any ops (SX n T N X R) k listed a w
 | 0,listed,F,h,H,a,w,h1,h2,h3,h4=>⟨H.1,h1,h2,h,h4,by rw[h3];exact H.2⟩
 | k+1,listed,F,h,H,a,w,h1,h2,h3,h4=>by
  refine⟨fun h0=>⟨h1,h2,h,h4,by rw[h3];exact H.1 h0⟩,fun i hi=>?_⟩
  have Hi:=H.2 i hi
  unfold Yd at Hi
  unfold wpOp
  cases ho:ops[i]? with
  | none=>rw[ho]at Hi;exact ZQ ZN k _ F h Hi.2 a w h1 h2 h3 h4
  | some o=>
   rw[ho]at Hi
   simp only at Hi ⊢
   have hd:∀d,o.dst=some d→d<a.tmps.size:=by
    rw[h1];exact Xs (List.all_eq_true.1 ZN o (by have:=Array.mem_of_getElem? ho;simpa using this))
   have WX:Region.wanted o (yielded ops a.tmps)=Zp ops o F:=by rw[XP ZN a h1,h3];rfl
   rw[WX]
   split at Hi
   ·rename_i hw
    rw[if_pos hw]
    refine .inl (Qb Hi h3 h4 fun v w' h' X3 hk=>?_)
    exact ZQ ZN k _ _ h' hk.2 _ _ (by rw[size_put,h1]) (by cases o.dst<;>exact h2) (by rw[Ym a _ _ hd,h3]) X3
   ·rename_i hw
    rw[if_neg hw]
    exact ZQ ZN k _ _ h Hi.2 _ _ (by rw[size_put,h1]) (by cases o.dst<;>exact h2) (by rw[Ym a _ _ hd,h3]) h4
def Yo (P:Program) (T:World) (ops:Array Oper) (S:Hp→Prop) (o:Oper) (v:Value) (F:Env):Prop:=
 (Zp ops o F=true∧∀h,S h→WW P T o (fun v' h'=>v'=v∧h'=h) F h)∨(Zp ops o F=false∧v=undef)
theorem NB {F:Env} {dst:Option Nat} {v:Value} {x:Operand} (hx:∀d,dst=some d→x ≠ .tmp d):ev (Zl F dst v) x=ev F x:=by
 cases dst with
 | none=>rfl
 | some d=>
  cases x with
  | tmp t=>
   have ZC:t≠d:=fun e=>hx d rfl (by rw[e])
   show (if t=d then v else F t)=F t
   rw[if_neg ZC]
  | _=>rfl
theorem Qp {ops:Array Oper} (o:Oper) (hs:∀cs b,o.op ≠ .select cs b) (F:Env) (dst:Option Nat) (v:Value) (h:∀d,dst=some d→d ∉ o.looksAt ops) :
  execOp (ev (Zl F dst v)) o=execOp (ev F) o:=
 execOp_congr o hs fun x hx=>NB fun d hd DX=>h d hd (by
  subst DX
  exact List.mem_append_left _ (List.mem_filterMap.2 ⟨.tmp d,by simpa using hx,rfl⟩))
theorem JH {ops:Array Oper} (o:Oper) (F:Env) (dst:Option Nat) (v:Value) (h:∀d,dst=some d→d ∉ o.looksAt ops) :
  Zp ops o (Zl F dst v)=Zp ops o F:=by
 cases dst with
 | none=>rfl
 | some d=>
  unfold Zp Region.wanted
  cases hg:o.guard with
  | none=>rfl
  | some gw=>
   obtain⟨g,want⟩:=gw
   simp only
   have hd:=h d rfl
   unfold Oper.looksAt at hd
   rw[hg]at hd
   simp only[List.mem_append,not_or]at hd
   have:YD ops (Zl F (some d) v) g=YD ops F g:=by
    unfold YD
    cases hb:(ops[g]?).bind (·.dst) with
    | none=>rfl
    | some t=>
     have ZC:t≠d:=fun e=>hd.2 (by rw[hb,e];simp)
     show (match (if t=d then v else F t) with|.bool b=>some b|_=>none)=_
     rw[if_neg ZC]
   rw[this]
theorem UY (F:Env) {d d':Option Nat} (v v':Value) (h:∀x,d=some x→d'≠some x):Zl (Zl F d v) d' v'=Zl (Zl F d' v') d v:=by
 cases d with
 | none=>rfl
 | some x=>
  cases d' with
  | none=>rfl
  | some y=>
   have ZC:y≠x:=fun e=>h x rfl (by rw[e])
   funext t
   simp only[Zl,Jo]
   by_cases h1:t=y
   ·subst h1;rw[if_pos rfl,if_neg ZC,if_pos rfl]
   ·rw[if_neg h1]
    by_cases h2:t=x
    ·rw[if_pos h2,if_pos h2]
    ·rw[if_neg h2,if_neg h2,if_neg h1]
theorem Yo.put {ops:Array Oper} {S:Hp→Prop} {o:Oper} (hs:∀cs b,o.op ≠ .select cs b) {v:Value} {F:Env} (hy:Yo P T ops S o v F) {dst:Option Nat} {u:Value}
  (h:∀d,dst=some d→d ∉ o.looksAt ops):Yo P T ops S o v (Zl F dst u):=by
 unfold Yo WW at *
 rw[JH o F dst u h,Qp o hs F dst u h]
 exact hy
theorem Yo.Kw {ops:Array Oper} {S:Hp→Prop} {i:Nat} {o:Oper} {v:Value} {F:Env} {h:Hp} (hi:ops[i]? = some o) (hy:Yo P T ops S o v F) (hS:S h)
  {K:Env→Hp→Prop} (H:K (Zl F o.dst v) h):Yd P T ops i K F h:=by
 unfold Yd
 rw[hi]
 rcases hy with⟨hw,hv⟩|⟨hw,rfl⟩
 ·simp only[hw,if_true]
  exact JG (fun v' h' ⟨e1,e2⟩=>by subst e1;subst e2;exact H) (hv h hS)
 ·simp only[hw,Bool.false_eq_true,if_false];exact H
theorem QV {ops:Array Oper} {S:Hp→Prop} {j:Nat} {oi oj:Oper} {v:Value} (hj:ops[j]? = some oj) (DY:oi.apart ops oj=true)
  (Ev:∀cs b,oi.op ≠ .select cs b) (DZ:∀cs b,oj.op ≠ .select cs b) {K:Env→Hp→Prop} {F:Env} {h:Hp} (hy:Yo P T ops S oi v F)
  (H:Yd P T ops j K (Zl F oi.dst v) h):Yd P T ops j (fun F' h'=>Yo P T ops S oi v F'∧K (Zl F' oi.dst v) h') F h:=by
 obtain⟨h1,h2,h3⟩:=Oper.apart_spec DY
 unfold Yd at *
 rw[hj]at *
 simp only at *
 rw[JH oj F oi.dst v h1]at H
 split at H
 ·rename_i hw
  rw[if_pos hw]
  unfold WW at *
  rw[Qp oj DZ F oi.dst v h1]at H
  refine Sw (QU fun u h' q=>?_) _ _ H
  exact⟨hy.put Ev h3,by rw[←UY F v u h2];exact q⟩
 ·rename_i hw
  rw[if_neg hw]
  exact⟨hy.put Ev h3,by rw[←UY F v undef h2];exact H⟩
theorem QW {ops:Array Oper} {S:Hp→Prop} {i:Nat} {oi:Oper} {v:Value} (hi:ops[i]? = some oi) (WY:∀(j:Nat) (o:Oper) cs b,ops[j]? = some o→o.op ≠ .select cs b) :
  ∀(k:Nat) (listed:Array Bool) (F:Env) (h:Hp),
   (∀j oj,ops[j]? = some oj→j≠i→listed.getD j true=false→(∀e∈oj.after,Region.binds .any e=true→e.on≠i)→oi.apart ops oj=true) →
   i∈Region.ready .any ops listed→Yo P T ops S oi v F→S h →
   Ta P T ops S N k (listed.setIfInBounds i true) (Zl F oi.dst v) h→Ta P T ops S N (k+1) listed F h:=by
 intro k
 induction k with
 | zero=>
  intro listed F h _ hr hy hS H
  refine⟨fun h=>(by rw[h]at hr;cases hr),fun j hj=>?_⟩
  by_cases Qq:j=i
  ·subst Qq;exact hy.Kw hi hS ⟨hS,H⟩
  ·have:=ready_mono hj Qq
   rw[H.1]at this
   cases this
 | succ k ih=>
  intro listed F h Qr hr hy hS H
  refine⟨fun h=>(by rw[h]at hr;cases hr),fun j hj=>?_⟩
  by_cases Qq:j=i
  ·subst Qq;exact hy.Kw hi hS ⟨hS,H⟩
  ·have h1:=H.2 j (ready_mono hj Qq)
   obtain⟨WZ,oj,SY,XM⟩:=mem_ready.1 hj
   have Pw:∀e∈oj.after,Region.binds .any e=true→e.on≠i:=fun e he hb heq=>by
    have h1:=XM e he hb
    have h0:=(mem_ready.1 hr).1
    rw[heq]at h1
    rcases Nat.lt_or_ge i listed.size with h'|h'
    ·simp[h']at h0 h1;rw[h0]at h1;cases h1
    ·simp[Array.getElem?_eq_none h']at h1
   have h2:=QV SY (Qr j oj SY Qq WZ Pw) (fun cs b=>WY i oi cs b hi) (fun cs b=>WY j oj cs b SY) hy h1
   have QX:∀k ok,ops[k]? = some ok→k≠i→(listed.setIfInBounds j true).getD k true=false →
     (∀e∈ok.after,Region.binds .any e=true→e.on≠i)→oi.apart ops ok=true:=fun k ok hk KT MM Nt=>by
    refine Qr k ok hk KT ?_ Nt
    by_cases Sx:j=k
    ·subst Sx;exact WZ
    ·rw[getD_set_ne true Sx]at MM;exact MM
   refine ZR (fun F' h' h3=>⟨h3.2.1,ih (listed.setIfInBounds j true) F' h' QX (ready_mono hr (Ne.symm Qq)) h3.1 h3.2.1 ?_⟩) h2
   rw[Array.setIfInBounds_comm _ _ Qq]
   exact h3.2.2
def JI (P:Program) (T:World) (ops:Array Oper) (S:Hp→Prop) (N:Env→Hp→Prop):List (Nat × Bool × Oper)→Env→Hp→Prop
 | [],F,h=>N F h
 | (_,q,o) :: l,F,h=>
  if Zp ops o F then
   if q then ∃v,(∀h',S h'→WW P T o (fun v' Qc=>v'=v∧Qc=h') F h')∧JI P T ops S N l (Zl F o.dst v) h
   else WW P T o (fun v h'=>S h'∧JI P T ops S N l (Zl F o.dst v) h') F h
  else JI P T ops S N l (Zl F o.dst undef) h
def YO (ops:Array Oper) (l:List (Nat × Bool)):List (Nat × Bool × Oper):=l.map fun (i,q)=>(i,q,ops.getD i default)
def QY (ops:Array Oper):List (Nat × Bool)→Array Bool→Bool
 | [],listed=>(Region.ready .any ops listed).isEmpty
 | (i,q) :: l,listed=>
  (if q then (Region.ready .any ops listed).contains i&&Region.free .any ops listed i else (Region.ready .any ops listed == [i]))&&QY ops l (listed.setIfInBounds i true)
theorem Ye {ops:Array Oper} {S:Hp→Prop} (hs:Region.noSelect ops=true):∀(l:List (Nat × Bool)) (listed:Array Bool) (F:Env) (h:Hp),QY ops l listed=true→S h →
  JI P T ops S N (YO ops l) F h→Ta P T ops S N l.length listed F h
 | [],listed,F,h,hB,_,H=>⟨by simpa [QY] using hB,H⟩
 | (i,q) :: l,listed,F,h,hB,hS,H=>by
  simp only[QY,Bool.and_eq_true]at hB
  obtain⟨SZ,HM⟩:=hB
  have Jp:i∈Region.ready .any ops listed:=by
   cases q
   ·simp only[Bool.false_eq_true,if_false,beq_iff_eq]at SZ;rw[SZ];simp
   ·simp only[if_true,Bool.and_eq_true]at SZ;simpa using SZ.1
  obtain⟨_,o,ho,_⟩:=mem_ready.1 Jp
  have hp:YO ops ((i,q) :: l)=(i,q,o) :: YO ops l:=by simp[YO,ho]
  rw[hp]at H
  simp only[JI]at H
  cases q with
  | true=>
   simp only[if_true,Bool.and_eq_true]at SZ H
   split at H
   ·rename_i hw
    obtain⟨v,hv,H⟩:=H
    exact QW ho (Region.noSelect_spec hs) l.length listed F h (Region.free_spec ho SZ.2) Jp (.inl ⟨hw,hv⟩) hS (Ye hs l _ _ _ HM hS H)
   ·rename_i hw
    exact QW ho (Region.noSelect_spec hs) l.length listed F h (Region.free_spec ho SZ.2) Jp (.inr ⟨by simpa using hw,rfl⟩) hS (Ye hs l _ _ _ HM hS H)
  | false=>
   simp only[Bool.false_eq_true,if_false,beq_iff_eq]at SZ H
   refine⟨fun h0=>(by rw[h0]at Jp;cases Jp),fun j hj=>?_⟩
   rw[SZ]at hj
   have hj:j=i:=by simpa using hj
   subst hj
   unfold Yd
   rw[ho]
   simp only
   split at H
   ·rename_i hw
    rw[if_pos hw]
    exact JG (fun v h' q=>⟨q.1,Ye hs l _ _ _ HM q.1 q.2⟩) H
   ·rename_i hw
    rw[if_neg hw]
    exact⟨hS,Ye hs l _ _ _ HM hS H⟩
def Xo (n:Nat) (ops:Array Oper) (l:List (Nat × Bool)):Bool:=
 XC n ops&&(Region.noSelect ops&&(QY ops l (Array.replicate ops.size false)&&Nat.beq l.length ops.size))
theorem VS.held {id:Nat} {ops:Array Oper} (S:Hp→Prop) (l:List (Nat × Bool)) (hm:P.follows .mixedOrders=true) (ZN:Xo n ops l=true) (hS:S h)
  (H:JI P T ops S N (YO ops l) F h):VS P n T (.region id ops true) N X R F h:=by
 intro a w h1 h2 h3 h4
 simp only[Xo,Bool.and_eq_true]at ZN
 obtain⟨k1,k2,k3,k4⟩:=ZN
 refine wp_region_any hm ?_
 have hl:l.length=ops.size:=Nat.eq_of_beq_eq_true k4
 rw[←hl]
 refine ZQ k1 _ _ F h (Ye k2 l _ F h (by rw[hl];exact k3) hS H) a _ h1 h2 h3 ⟨h4.heap,h4.tape,h4.os,h4.output⟩
theorem VS.quiet {id:Nat} {ops:Array Oper} (hm:P.follows .mixedOrders=true) (ZN:Xo n ops ((List.range ops.size).map fun i=>(i,true))=true)
  (H:JI P T ops (fun h'=>h'=h) N (YO ops ((List.range ops.size).map fun i=>(i,true))) F h):VS P n T (.region id ops true) N X R F h:=
 VS.held (fun h'=>h'=h) _ hm ZN rfl H
def hr {α:Type} (P:Program):Sem α→Hp→Option α
 | .pure a,_=>some a
 | .load _ a k,h=>(hc h a).bind fun v=>hr P (k v) h
 | .shape r k,h=>hr P (k (Z5 h r)) h
 | .frozen a k,h=>hr P (k (NA h a)) h
 | .program k,h=>hr P (k P) h
 | _,_=>none
theorem Px {α:Type} {P:Program} {T:World}:∀(s:Sem α) (h:Hp) (a:α),hr P s h=some a→∀w,ZT T w h→s.run P w=.ok a w:=by
 intro s
 induction s with
 | pure a=>intro h b H w hs;simp only[hr,Option.some.injEq]at H;rw[H];rfl
 | load m a k ih=>
  intro h b H w hs
  simp only[hr]at H
  cases hv:hc h a with
  | none=>rw[hv]at H;cases H
  | some v=>
   rw[hv]at H
   have:w.cell? a=some v:=by rw[World.cell?,hs.heap];exact hv
   rw[Sem.run,this];exact ih v h b H w hs
 | shape r k ih=>
  intro h b H w hs
  have:w.shape? r=Z5 h r:=by rw[World.shape?,hs.heap];rfl
  rw[Sem.run,this];exact ih _ h b H w hs
 | frozen a k ih=>
  intro h b H w hs
  have:w.frozen? a=NA h a:=by rw[World.frozen?,hs.heap];rfl
  rw[Sem.run,this];exact ih _ h b H w hs
 | program k ih=>intro h b H w hs;rw[Sem.run];exact ih _ h b H w hs
 | _=>intro h b H;cases H
theorem Z1 {α β:Type} {P:Program} (s:Sem α) (f:α→Sem β):∀h,hr P (s >>= f) h=(hr P s h).bind fun a=>hr P (f a) h:=by
 show ∀h,hr P (s.bind f) h=_
 induction s with
 | load m a k ih=>intro h;simp only[Sem.bind,hr,ih];cases hc h a<;>rfl
 | shape r k ih=>intro h;simp only[Sem.bind,hr,ih]
 | frozen a k ih=>intro h;simp only[Sem.bind,hr,ih]
 | program k ih=>intro h;simp only[Sem.bind,hr,ih]
 | _=>intro h;rfl
def JJ (P:Program) (t:TypeId) (v:Value) (h:Hp):Option Value:=
 match v with
 | .pointer (some a)=>hr P (loadVar t a) h
 | _=>none
def Z2 (P:Program) (F:Env) (h:Hp):List ResultVar→Option (List Value)
 | []=>some []
 | .tmp t :: l=>(Z2 P F h l).map (F t :: ·)
 | .cell a t :: l=>(JJ P t (F a) h).bind fun v=>(Z2 P F h l).map (v :: ·)
def Jq:List Value→Value
 | [v]=>v
 | l=>.tuple l.toArray
def Y0 (P:Program) (l:List ResultVar) (F:Env) (Q:Value→Hp→Prop) (h:Hp):Prop:=
 match Z2 P F h l with
 | some vs=>Q (Jq vs) h
 | none=>False
def NC (F:Env):ResultVar→Sem Value
 | .tmp t=>pure (F t)
 | .cell a t=>do loadVar t (←asAddr (F a))
theorem S0 {F:Env} {h:Hp}:∀(l:List ResultVar) (vs:List Value),Z2 P F h l=some vs→hr P (l.mapM (NC F)) h=some vs:=by
 intro l
 induction l with
 | nil=>intro vs H;simp only[Z2,Option.some.injEq]at H;subst H;rfl
 | cons x l ih=>
  intro vs H
  rw[List.mapM_cons,Z1]
  cases x with
  | tmp t=>
   simp only[Z2]at H
   cases hl:Z2 P F h l with
   | none=>rw[hl]at H;cases H
   | some us=>
    rw[hl]at H
    simp only[Option.map_some,Option.some.injEq]at H
    subst H
    show (some (F t)).bind _=_
    rw[Option.bind_some,Z1,ih us hl];rfl
  | cell a t=>
   simp only[Z2]at H
   cases hv:JJ P t (F a) h with
   | none=>rw[hv]at H;cases H
   | some v=>
    rw[hv]at H
    cases hl:Z2 P F h l with
    | none=>rw[hl]at H;cases H
    | some us=>
     rw[hl]at H
     simp only[Option.bind_some,Option.map_some,Option.some.injEq]at H
     subst H
     have e:hr P (NC F (.cell a t)) h=some v:=by
      show hr P (asAddr (F a) >>= fun b=>loadVar t b) h=some v
      unfold JJ at hv
      split at hv
      ·rename_i b hb
       rw[hb,Z1];exact hv
      ·cases hv
     rw[e,Option.bind_some,Z1,ih us hl];rfl
theorem Qs {fn:Func} {l:List ResultVar} (hl:fn.results=l.toArray) {a:Act} {h:Hp} {vs:List Value} (H:Z2 P (env a) h l=some vs) {w:World} (hs:ZT T w h) :
  (results fn a.tmps).run P w=.ok (Jq vs) w:=by
 have e:results fn a.tmps=(do let us ←fn.results.mapM (NC (env a));pure (if h:us.size=1 then us[0] else .tuple us)):=by
  have e1:(fun x:ResultVar=>match x with|.tmp t=>(pure (a.tmps.getD t undef):Sem Value)|.cell x t=>do loadVar t (←asAddr (a.tmps.getD x undef)))=NC (env a):=by
   funext x
   cases x<;>rfl
  rw[←e1]
  rfl
 rw[e,hl]
 refine Px (T:=T) _ h _ ?_ w hs
 rw[Z1,List.mapM_toArray,map_eq_pure_bind,Z1,S0 l vs H]
 show some _=_
 congr 1
 match vs with
 | []=>rfl
 | [v]=>rfl
 | v :: u :: l=>simp[Jq]
end
theorem Qd (args:Array Value) (k:Nat):env { tmps:=args++Array.replicate k undef,defers:=[] } = JE args.toList 0:=by
 have key:∀(l:List Value) (j t:Nat),JE l j t=if j≤t then (l[t-j]?).getD undef else undef:=by
  intro l
  induction l with
  | nil=>intro j t;simp[JE]
  | cons v l ih=>
   intro j t
   simp only[JE,Jo]
   by_cases h:t=j
   ·subst h;simp
   ·rw[if_neg h,ih]
    by_cases h':j≤t
    ·have e:t-j=(t-(j+1))+1:=by omega
     rw[if_pos (by omega),if_pos h',e];simp
    ·rw[if_neg (by omega),if_neg h']
 funext t
 rw[key]
 simp only[env,Nat.zero_le,if_true,Nat.sub_zero,Array.getD_eq_getD_getElem?,Array.getElem?_append,Array.getElem?_toList]
 by_cases h:t<args.size
 ·rw[if_pos h]
 ·rw[if_neg h,Array.getElem?_eq_none (by omega:args.size≤t)]
  by_cases h2:t-args.size<k
  ·simp[h2]
  ·simp[h2]
theorem Zf.Sy {P:Program} {T:World} {f:FuncId} {fn:Func} {c:Code} {l:List ResultVar} {args:Array Value} {h:Hp} {Q:Value→Hp→Prop} (hf:P.funcs[f]? = some fn) (hb:fn.body=some c)
  (hl:fn.results=l.toArray) (hn:Nat.ble args.size fn.ntmps=true)
  (H:VS P fn.ntmps T c (fun F h'=>Y0 P l F Q h') (fun _ _ _=>False) (fun F h'=>Y0 P l F Q h') (JE args.toList 0) h) :
  Zf P T f args h Q:=by
 intro w hs
 refine calls_of_wp hf hb (Code.wp_mono (fun e a w hp=>?_) (H _ w ?_ rfl (Qd _ _) hs))
 ·obtain⟨q1,q2,h',q3,q4⟩:=hp
  have key:Y0 P l (env a) Q h'→∃v,(results fn a.tmps).run P w=.ok v w∧∃v' Qc,Ending.returned v=.returned v'∧ZT T w Qc∧Q v' Qc:=by
   intro hr
   unfold Y0 at hr
   split at hr
   ·rename_i vs ND
    exact⟨_,Qs hl ND q3,_,h',rfl,q3,hr⟩
   ·exact hr.elim
  cases e with
  | normal=>exact⟨q2,key q4⟩
  | ret=>exact⟨q2,key q4⟩
  | _=>exact q4.elim
 ·have:=Nat.le_of_ble_eq_true hn
  simp only[Array.size_append,Array.size_replicate];omega
set_option linter.unusedSimpArgs false
set_option linter.unusedVariables false
def tz (P:Program) (t:TypeId):Option (List Value):=((P.info? t).bind (·.zero)).map fun v=>v.cells.toList
def tn (P:Program) (t:TypeId):Option Nat:=(P.info? t).map (·.size)
def tb (P:Program) (t:TypeId):Option Nat:=(P.info? t).map (·.bytes)
def ta (P:Program) (t:TypeId):Option Bool:=(P.underlying t).map fun|.struct _=>true|.array _ _=>true|_=>false
def tf (P:Program) (t:TypeId) (i:Nat):Option Nat:=
 match P.underlying t with
 | some (.struct fs)=>(fs[i]?).bind fun f=>match tn P f.type with
  | some (_+1)=>some f.offset
  | _=>none
 | _=>none
def Yp (P:Program) (t:TypeId):Option (Nat × TypeId):=match P.underlying t with|some (.array n e)=>some (n,e)|_=>none
def XD (P:Program) (t:TypeId):Option TypeId:=match P.underlying t with|some (.slice e)=>some e|_=>none
def Lk (P:Program) (t:TypeId):Option (List (Nat × Nat)):=match P.underlying t with|some (.struct fs)=>fs.toList.mapM (fun f=>(tn P f.type).map fun n=>(f.offset,n))|_=>none
def HN (P:Program) (t:TypeId) (i:Nat):Option (Nat × TypeId):=match P.underlying t with|some (.struct fs)=>(fs[i]?).map fun f=>(f.offset,f.type)|_=>none
def Jr (P:Program) (t:TypeId):Bool:=match P.underlying t with|some .string=>true|_=>false
def Tb (P:Program) (t:TypeId):Option IntKind:=match P.underlying t with|some (.int k)=>some k|_=>none
def goes (P:Program) (f:FuncId):Bool:=match P.funcs[f]? with|some fn=>!(fn.name == "runtime.NumGoroutine")&&fn.body.isSome|none=>false
def cl:Value→List Value
 | .agg cs=>cs.toList
 | v=>[v]
theorem JK (v:Value):(cl v).toArray=v.cells:=by cases v<;>rfl
section
variable (P:Program) (T:World)
def UZ (c a b:Value) (K:Value→Hp→Prop) (h:Hp):Prop:=
 match c with|.bool t=>K (if t then a else b) h|_=>False
def Py (z:Option (List Value)) (t:TypeId) (K:Value→Hp→Prop) (h:Hp):Prop:=
 match z with|some l=>K (.pointer (some ⟨h.size,0,none⟩)) (h.push (.cells l.toArray t))|none=>False
def rd (h:Hp) (a:Addr) (n:Nat):Option (List Value):=
 match h[a.block]? with
 | some (.cells c _ _)=>if a.spot=none∧a.off+n≤c.size then some ((c.toList.drop a.off).take n) else none
 | _=>none
def QE (x:Option Value) (K:Value→Hp→Prop) (h:Hp):Prop:=match x with|some v=>K v h|none=>False
def QZ (x:Option (List Value)) (K:Value→Hp→Prop) (h:Hp):Prop:=match x with|some l=>K (.agg l.toArray) h|none=>False
def JL (s:Option Bool) (n:Option Nat) (p:Value) (K:Value→Hp→Prop) (h:Hp):Prop:=
 match p with
 | .pointer (some a)=>match s,n with
  | some false,_=>QE (hc h a) K h
  | some true,some n=>QZ (rd h a n) K h
  | _,_=>False
 | _=>False
def ZW:List Value→Nat→List Value→List Value
 | l,_,[]=>l
 | [],_,_ :: _=>[]
 | _ :: l,0,v :: vs=>v :: ZW l 0 vs
 | x :: l,n+1,v :: vs=>x :: ZW l n (v :: vs)
def wr (h:Hp) (a:Addr) (vs:List Value):Option Hp:=
 match h[a.block]? with
 | some (.cells c e (lo,hi))=>if a.spot=none∧a.off+vs.length≤c.size∧hi≤lo∧vs.all Yb=true then some (h.setIfInBounds a.block (.cells (ZW c.toList a.off vs).toArray e (lo,hi))) else none
 | _=>none
def XN (h:Hp) (a:Addr) (v:Value):Option Hp:=
 match h[a.block]? with
 | some (.cells c e (lo,hi))=>if a.spot=none∧a.off<c.size∧hi≤lo∧Yb v=true then some (h.setIfInBounds a.block (.cells (c.setIfInBounds a.off v) e (lo,hi))) else none
 | _=>none
def Sz (x:Option Hp) (K:Value→Hp→Prop):Prop:=match x with|some h'=>K undef h'|none=>False
def YP (n:Option Nat) (p v:Value) (K:Value→Hp→Prop) (h:Hp):Prop:=
 match p,n with
 | .pointer (some a),some n=>
  if n=(cl v).length then
   match v with
   | .agg cs=>Sz (wr h a cs.toList) K
   | v=>Sz (XN h a v) K
  else False
 | _,_=>False
def Js (f:Option Nat) (p:Value) (K:Value→Hp→Prop) (h:Hp):Prop:=
 match f,p with
 | some o,.pointer (some a)=>K (.pointer (some (a.add o))) h
 | _,_=>False
def ZI (op:BinOp) (t:TypeId) (x y:Operand) (a b:Value) (K:Value→Hp→Prop) (h:Hp):Prop:=
 hw P (do eqGuard op t x y a b;binOp op t a b) K h
def Kx (op:UnOp) (a:Value) (K:Value→Hp→Prop) (h:Hp):Prop:=hw P (Op.unary op a) K h
def XQ (src dst:TypeId) (a:Value) (K:Value→Hp→Prop) (h:Hp):Prop:=hw P (convert src dst a) K h
def MN (arr:Option (Nat × TypeId)) (sl:Option TypeId) (n:TypeId→Option Nat) (p i:Value) (K:Value→Hp→Prop) (h:Hp):Prop:=
 match i with
 | .int _ i=>(match arr,sl,p with
  | some (len,e),none,.pointer (some a)=>(match n e with
   | some n=>if 0≤i∧i<(len:Int) then K (.pointer (some (a.add (i.toNat*n)))) h else False
   | none=>False)
  | none,some e,.slice (some a) len _=>(match n e with
   | some n=>if 0≤i∧i<(len:Int) then K (.pointer (some (a.add (i.toNat*n)))) h else False
   | none=>False)
  | _,_,_=>False)
 | _=>False
def YE (v:Value) (i:Nat) (K:Value→Hp→Prop) (h:Hp):Prop:=
 match v with|.tuple vs=>QE (vs[i]?) K h|_=>False
def Tc (v:Value) (K:Value→Hp→Prop) (h:Hp):Prop:=
 match v with|.pointer (some a)=>K (.pointer (some a)) h|.func (.func f) x y=>K (.func (.func f) x y) h|_=>False
def Qt (f:Value) (args:List Value) (K:Value→Hp→Prop) (h:Hp):Prop:=
 match f with
 | .func (.func f) first captured=>if goes P f=true then Zf P T f (first.toList++args++captured.toList).toArray h K
  else hw P (callFunc f (first.toList++args++captured.toList).toArray) (Z9 P T K) h
 | _=>False
def UE (b:Builtin) (ts:Array TypeId) (ty:TypeId) (cs:Array Bool) (args:List Value) (K:Value→Hp→Prop) (h:Hp):Prop:=
 hw P (builtin b ts ty cs args.toArray) (Z9 P T K) h
def Pk (F:Env):List Operand→List Value
 | []=>[]
 | x :: l=>ev F x :: Pk F l
theorem Wl (F:Env) (l:List Operand):Pk F l=l.map (ev F):=by induction l with|nil=>rfl|cons x l ih=>simp[Pk,ih]
def nth {α:Type}:List α→Nat→Option α
 | [],_=>none
 | x :: _,0=>some x
 | _ :: l,n+1=>nth l n
def JM (n:Nat) (i:Nat):Option (Nat × Nat):=some (i*n,n)
def YF (place:Nat→Option (Nat × Nat)):List Value→List (Nat × Value)→Option (List Value)
 | cs,[]=>some cs
 | cs,(i,v) :: l=>match place i with
  | some (o,s)=>if (cl v).length=s∧o+s≤cs.length then YF place (ZW cs o (cl v)) l else none
  | none=>none
def Td (F:Env):List (Nat × Operand)→List (Nat × Value)
 | []=>[]
 | (i,x) :: l=>(i,ev F x) :: Td F l
def QK (n:Option Nat) (z:List Value) (parts:List (Nat × Value)) (K:Value→Hp→Prop) (h:Hp):Prop:=
 match n with|some n=>QZ (YF (JM n) z parts) K h|none=>False
def Jt (z:Option (List Value)) (pl:Option (List (Nat × Nat))) (arr:Option (Nat × TypeId)) (n:TypeId→Option Nat) (parts:List (Nat × Value)) (K:Value→Hp→Prop) (h:Hp):Prop:=
 match z,pl,arr with
 | some z,some pl,none=>QZ (YF (nth pl) z parts) K h
 | some z,none,some (_,e)=>QK (n e) z parts K h
 | _,_,_=>False
def YT:Nat→List Value→List Value
 | 0,_=>[]
 | n+1,z=>z++YT n z
def Te:Nat→List (Nat × Value)→Option (List Value)
 | _,[]=>some []
 | k,(i,v) :: l=>if i=k∧Yb v=true then (Te (k+1) l).map (v :: ·) else none
def SA (e:TypeId) (len:Nat) (x:Option (List Value)) (K:Value→Hp→Prop) (h:Hp):Prop:=
 match x with|some l=>K (.slice (some ⟨h.size,0,none⟩) len len) (h.push (.cells l.toArray e))|none=>False
def QL (n len:Nat) (z:List Value) (parts:List (Nat × Value)):Option (List Value):=
 if n=1∧parts.length=len then Te 0 parts else YF (JM n) (YT len z) parts
def X4 (e:TypeId) (n:Option Nat) (z:Option (List Value)) (len:Nat) (parts:List (Nat × Value)) (K:Value→Hp→Prop) (h:Hp):Prop:=
 match n,z with
 | some n,some z=>if z.length=n∧len*n≤16777216 then SA e len (QL n len z parts) K h else False
 | _,_=>False
def JN (e:Option TypeId) (n:TypeId→Option Nat) (z:TypeId→Option (List Value)) (len:Nat) (parts:List (Nat × Value)) (K:Value→Hp→Prop) (h:Hp):Prop:=
 match e with
 | some e=>X4 e (n e) (z e) len parts K h
 | none=>False
def Qu (a:Option Bool) (n:Option Nat) (cs:List Value) (o:Nat) (K:Value→Hp→Prop) (h:Hp):Prop:=
 match a,n with
 | some true,some n=>K (.agg ((cs.drop o).take n).toArray) h
 | some false,_=>QE (nth cs o) K h
 | _,_=>False
def Pz (f:Option (Nat × TypeId)) (a:TypeId→Option Bool) (n:TypeId→Option Nat) (x:Value) (K:Value→Hp→Prop) (h:Hp):Prop:=
 match f,x with
 | some (o,t),.agg cs=>Qu (a t) (n t) cs.toList o K h
 | _,_=>False
def SB (m:Option Nat) (a:Option Bool) (len:Nat) (cs:List Value) (i:Int) (K:Value→Hp→Prop) (h:Hp):Prop:=
 match m with|some m=>if 0≤i∧i<(len:Int) then Qu a (some m) cs (i.toNat*m) K h else False|none=>False
def Tf (arr:Option (Nat × TypeId)) (str:Bool) (a:TypeId→Option Bool) (n:TypeId→Option Nat) (x i:Value) (K:Value→Hp→Prop) (h:Hp):Prop:=
 match i with
 | .int _ i=>(match arr,str,x with
  | some (len,e),false,.agg cs=>SB (n e) (a e) len cs.toList i K h
  | none,true,.string s=>if 0≤i∧i<(s.size:Int) then K (.int .u8 ((s.data.toList.getD i.toNat 0).toNat:Nat)) h else False
  | _,_,_=>False)
 | _=>False
def sb (x:Option Value) (d y:Nat):Option Nat:=
 match x with
 | none=>some d
 | some (.int _ i)=>if 0≤i∧i≤(y:Int) then some i.toNat else none
 | _=>none
def SC (F:Env):Option Operand→Option Value
 | none=>none
 | some x=>some (ev F x)
def XE (n:Option Nat) (a:Option Addr) (len cap:Nat) (lo hi:Option Value) (K:Value→Hp→Prop) (h:Hp):Prop:=
 match n,sb hi len cap with
 | some n,some b=>(match sb lo 0 b with
  | some l=>K (.slice (if cap=l then a else a.map (·.add (l*n))) (b-l) (cap-l)) h
  | none=>False)
 | _,_=>False
def UF (arr:Option (Nat × TypeId)) (sl:Option TypeId) (str:Bool) (n:TypeId→Option Nat) (x:Value) (lo hi mx:Option Value) (K:Value→Hp→Prop) (h:Hp):Prop:=
 match mx,x,arr,sl,str with
 | some mv,.slice a len cap,none,some e,_=>(match hi,sb (some mv) 0 cap with
  | some hv,some m=>XE (n e) a len m lo (some hv) K h
  | _,_=>False)
 | none,.slice a len cap,none,some e,_=>XE (n e) a len cap lo hi K h
 | none,.pointer (some a),some (len,e),none,_=>XE (n e) (some a) len len lo hi K h
 | none,.string s,none,none,true=>(match sb hi s.size s.size with
  | some b=>(match sb lo 0 b with|some l=>K (.string (s.extract l b)) h|none=>False)
  | none=>False)
 | _,_,_,_,_=>False
def NF (e:TypeId) (n:Option Nat) (Ky:Option Nat) (z:Option (List Value)) (l c:Int) (K:Value→Hp→Prop) (h:Hp):Prop:=
 match n,Ky,z with
 | some n,some bytes,some z=>if z.length=n∧0≤l∧l≤c∧c≤9223372036854775807∧(bytes:Int)*c≤281474976710656 then K (.slice (some ⟨h.size,0,none⟩) l.toNat c.toNat) (h.push (.cells (YT c.toNat z).toArray e)) else False
 | _,_,_=>False
def HO (e:Option TypeId) (n Ky:TypeId→Option Nat) (z:TypeId→Option (List Value)) (l c:Value) (K:Value→Hp→Prop) (h:Hp):Prop:=
 match e,l,c with
 | some e,.int _ l,.int _ c=>NF e (n e) (Ky e) (z e) l c K h
 | _,_,_=>False
def Je (op:Op) (ty:TypeId) (K:Value→Hp→Prop) (F:Env) (h:Hp):Prop:=
 match op with
 | .move x|.assign x=>K (ev F x) h
 | .pick c a b=>UZ (ev F c) (ev F a) (ev F b) K h
 | .alloc e=>Py (tz P e) e K h
 | .box e x=>Py (some (cl (ev F x))) e K h
 | .load t a=>JL (ta P t) (tn P t) (ev F a) K h
 | .store t a x=>YP (tn P t) (ev F a) (ev F x) K h
 | .fieldAddr t x i=>Js (tf P t i) (ev F x) K h
 | .indexAddr t x i=>MN (Yp P t) (XD P t) (tn P) (ev F x) (ev F i) K h
 | .nilCheck x=>Tc (ev F x) K h
 | .binOp op t x y _=>ZI P op t x y (ev F x) (ev F y) K h
 | .unOp op _ x=>Kx P op (ev F x) K h
 | .convert s d x=>XQ P s d (ev F x) K h
 | .extract x i=>YE (ev F x) i K h
 | .makeFunc fn first captured=>K (.func fn (Pk F first.toList).toArray (Pk F captured.toList).toArray) h
 | .call ⟨.value f,args,_⟩=>Qt P T (ev F f) (Pk F args.toList) K h
 | .call ⟨.builtin b,args,ts⟩=>UE P T b ts ty (args.map fun|.const _=>true|_=>false) (Pk F args.toList) K h
 | .build t parts=>Jt (tz P t) (Lk P t) (Yp P t) (tn P) (Td F parts.toList) K h
 | .buildSlice t len parts=>JN (XD P t) (tn P) (tz P) len (Td F parts.toList) K h
 | .field t x i=>Pz (HN P t i) (ta P) (tn P) (ev F x) K h
 | .index t x i=>Tf (Yp P t) (Jr P t) (ta P) (tn P) (ev F x) (ev F i) K h
 | .slice t x lo hi mx=>UF (Yp P t) (XD P t) (Jr P t) (tn P) (ev F x) (SC F lo) (SC F hi) (SC F mx) K h
 | .makeSlice t l c=>HO (XD P t) (tn P) (tb P) (tz P) (ev F l) (ev F c) K h
 | op=>WW P T ⟨none,op,ty, "", #[],none⟩ K F h
end
section
variable {P:Program} {T:World} {K:Value→Hp→Prop} {F:Env} {h:Hp} {ty:TypeId}
theorem Th {Q:Program→Hp→Prop}:hw P program Q h=Q P h:=rfl
theorem Zi {α:Type} {Q:α→Hp→Prop} (a:α):hw P (pure a) Q h=Q a h:=rfl
theorem ZX {t:TypeId} {d:TypeInfo} (hd:P.info? t=some d) {Q:TypeInfo→Hp→Prop}:hw P (typeInfo t) Q h=Q d h:=by
 simp only[typeInfo];rw[Za];simp only[program,hw];rw[hd];rfl
theorem Zh {t:TypeId} {d:TypeDesc} (hd:P.underlying t=some d) {Q:TypeDesc→Hp→Prop}:hw P (underlying t) Q h=Q d h:=by
 simp only[underlying];rw[Za];simp only[program,hw];rw[hd];rfl
theorem run_sizeOf {t:TypeId} {n:Nat} (hn:tn P t=some n) {Q:Nat→Hp→Prop}:hw P (sizeOf t) Q h=Q n h:=by
 unfold tn at hn
 cases hi:P.info? t with
 | none=>rw[hi]at hn;cases hn
 | some i=>
  rw[hi]at hn
  simp only[Option.map_some,Option.some.injEq]at hn
  subst hn
  unfold sizeOf
  rw[Za,ZX hi];rfl
theorem X5 {t:TypeId} {b:Bool} (hb:ta P t=some b) {Q:Bool→Hp→Prop}:hw P (isAgg t) Q h=Q b h:=by
 unfold ta at hb
 cases hi:P.underlying t with
 | none=>rw[hi]at hb;cases hb
 | some d=>
  rw[hi]at hb
  simp only[Option.map_some,Option.some.injEq]at hb
  subst hb
  unfold isAgg
  rw[Za,Zh hi]
  cases d<;>rfl
theorem addr_add (b o n:Nat):Addr.add ⟨b,o,none⟩ n=⟨b,o+n,none⟩:=by
 unfold Addr.add
 split
 ·rename_i h;subst h;rfl
 ·rfl
theorem X6 (a:Addr) (n:Nat) (ha:a.spot=none):a.add n=⟨a.block,a.off+n,none⟩:=by
 obtain⟨b,o,s⟩:=a
 simp only at ha
 subst ha
 exact addr_add b o n
theorem run_loadCells (a:Addr) (c:List Value) {Q:Array Value→Hp→Prop}:∀(n i:Nat) (acc:Array Value),
  (∀j,j<n→hc h (a.add (i+j))=some (c.getD j undef))→n=c.length→Q (acc++c.toArray) h→hw P (loadCellsFrom a i n acc) Q h:=by
 induction c with
 | nil=>intro n i acc _ hn H;subst hn;simpa [loadCellsFrom,pure,hw] using H
 | cons v c ih=>
  intro n i acc hj hn H
  subst hn
  show hw P (load (a.add i) >>= fun v=>loadCellsFrom a (i+1) c.length (acc.push v)) Q h
  rw[Za]
  refine⟨v,by simpa using hj 0 (by simp),?_⟩
  refine ih _ (i+1) _ (fun j HP=>?_) rfl ?_
  ·have:=hj (j+1) (by simp;omega)
   have e:i+(j+1)=i+1+j:=by omega
   rw[e]at this
   simpa using this
  ·simpa using H
theorem Ti {t:TypeId} {v:Value} (H:JL (ta P t) (tn P t) v K h):hw P (Instr.loadAt t v) K h:=by
 unfold JL at H
 split at H
 ·rename_i a
  unfold Instr.loadAt
  rw[Za]
  show hw P (loadVar t a) K h
  unfold loadVar
  rw[Za]
  split at H
  ·rename_i hs
   rw[X5 hs]
   unfold QE at H
   split at H
   ·rename_i v hv;exact⟨v,hv,H⟩
   ·exact H.elim
  ·rename_i n hs hn
   rw[X5 hs]
   simp only[if_true]
   rw[Za,run_sizeOf hn,Za]
   unfold QZ at H
   split at H
   ·rename_i l hl
    unfold rd at hl
    split at hl
    ·rename_i c e fr hb
     split at hl
     ·rename_i JO
      obtain⟨h1,h2⟩:=JO
      simp only[Option.some.injEq]at hl
      subst hl
      have hlen:((c.toList.drop a.off).take n).length=n:=by simp;omega
      refine run_loadCells a _ n 0 #[] (fun j hj=>?_) hlen.symm (by simpa [Zi] using H)
      rw[X6 a _ h1]
      unfold hc
      rw[hb]
      simp only[Option.isSome_none,Bool.false_eq_true,if_false]
      rw[List.getD_eq_getElem?_getD,List.getElem?_take,if_pos hj,List.getElem?_drop]
      have e:a.off+(0+j)=a.off+j:=by omega
      rw[e]
      simp
      rw[Array.getElem?_eq_getElem (by omega)];rfl
     ·cases hl
    ·cases hl
   ·exact H.elim
  ·exact H.elim
 ·exact H.elim
theorem run_store {a:Addr} {v:Value} {Q:Unit→Hp→Prop}:hw P (store a v) Q h=(Yb v=true∧(∃u,hc h a=some u)∧NA h a=false∧Q () (SW h a v)):=rfl
theorem NG {a:Addr} {c:Array Value} {e:TypeId} {fr:Nat × Nat} (hb:h[a.block]? = some (.cells c e fr)) (hs:a.spot=none) (v:Value) :
  SW h a v=h.setIfInBounds a.block (.cells (c.setIfInBounds a.off v) e fr):=by
 obtain⟨ZH,Ll⟩:=Array.getElem?_eq_some_iff.1 hb
 unfold SW
 apply Array.ext_getElem?
 intro i
 rw[Array.getElem?_modify,Array.getElem?_setIfInBounds]
 by_cases hi:a.block=i
 ·subst hi
  simp[Ll,hs,ZH]
 ·simp[hi]
theorem JP (l:List Value) (n:Nat) (v:Value) (vs:List Value):ZW l n (v :: vs)=ZW (l.set n v) (n+1) vs:=by
 induction l generalizing n with
 | nil=>cases vs<;>simp[ZW]
 | cons x l ih=>
  cases n with
  | zero=>
   simp only[ZW,List.set_cons_zero]
   cases vs with
   | nil=>simp[ZW]
   | cons u us=>simp[ZW]
  | succ n=>
   simp only[ZW,List.set_cons_succ]
   rw[ih]
   cases vs with
   | nil=>simp[ZW]
   | cons u us=>simp[ZW]
theorem ZK {a:Addr} {e:TypeId} {lo hi:Nat} {Q:Unit→Hp→Prop} (hs:a.spot=none) (NH:hi≤lo):∀(vs:List Value) (i:Nat) (h:Hp) (c:Array Value),
  h[a.block]? = some (.cells c e (lo,hi))→a.off+i+vs.length≤c.size→vs.all Yb=true →
  Q () (h.setIfInBounds a.block (.cells (ZW c.toList (a.off+i) vs).toArray e (lo,hi)))→hw P (storeCells a vs i) Q h
 | [],i,h,c,hb,_,_,H=>by
  have e:h.setIfInBounds a.block (.cells (ZW c.toList (a.off+i) []).toArray e (lo,hi))=h:=by
   have ZH:=(Array.getElem?_eq_some_iff.1 hb).1
   apply Array.ext_getElem?
   intro j
   rw[Array.getElem?_setIfInBounds]
   by_cases hj:a.block=j
   ·subst hj;rw[if_pos rfl,if_pos ZH,hb];simp[ZW]
   ·simp[hj]
  rw[e]at H
  exact H
 | v :: vs,i,h,c,hb,hlen,Qe,H=>by
  simp only[List.all_cons,Bool.and_eq_true]at Qe
  simp only[List.length_cons]at hlen
  show hw P (store (a.add i) v >>= fun _=>storeCells a vs (i+1)) Q h
  rw[Za,run_store,X6 a i hs]
  have ZH:a.block<h.size:=(Array.getElem?_eq_some_iff.1 hb).1
  refine⟨Qe.1,?_,?_,?_⟩
  ·unfold hc;simp only[hb]
   refine⟨c[a.off+i]'(by omega),?_⟩
   simp only[Option.isSome_none,Bool.false_eq_true,if_false]
   rw[Array.getElem?_eq_getElem (by omega)]
  ·unfold NA;simp only[hb];simp;omega
  ·have Jg:h[({ block:=a.block,off:=a.off+i,spot:=none }:Addr).block]? = some (.cells c e (lo,hi)):=hb
   rw[NG Jg rfl]
   have HQ:(h.setIfInBounds a.block (.cells (c.setIfInBounds (a.off+i) v) e (lo,hi)))[a.block]? = some (.cells (c.setIfInBounds (a.off+i) v) e (lo,hi)):=by
    simp[ZH]
   refine ZK hs NH vs (i+1) _ _ HQ (by simp;omega) Qe.2 ?_
   have e2:(h.setIfInBounds a.block (.cells (c.setIfInBounds (a.off+i) v) e (lo,hi))).setIfInBounds a.block
     (.cells (ZW (c.setIfInBounds (a.off+i) v).toList (a.off+(i+1)) vs).toArray e (lo,hi)) =
     h.setIfInBounds a.block (.cells (ZW c.toList (a.off+i) (v :: vs)).toArray e (lo,hi)):=by
    rw[JP,Array.toList_setIfInBounds]
    rw[Array.setIfInBounds_setIfInBounds,Nat.add_assoc]
   rw[e2];exact H
theorem W5 {t:TypeId} {p v:Value} (H:YP (tn P t) p v K h):hw P (Instr.storeAt t p v) (fun _ h=>K undef h) h:=by
 unfold YP at H
 split at H
 ·rename_i a n hn
  unfold Instr.storeAt
  rw[Za]
  show hw P (storeVar t a v) _ h
  unfold storeVar
  split at H
  ·rename_i hlen
   have U0:v.cells.size=n:=by rw[←JK,hlen];simp
   rw[Za,run_sizeOf hn]
   simp only[U0,ne_eq,not_true_eq_false,if_false]
   show hw P (storeCells a v.cells.toList) _ h
   split at H
   ·rename_i cs
    unfold Sz at H
    split at H
    ·rename_i h' hh
     unfold wr at hh
     split at hh
     ·rename_i c e lo hi hb
      split at hh
      ·rename_i Lm
       obtain⟨h1,h2,h3,h4⟩:=Lm
       simp only[Option.some.injEq]at hh
       subst hh
       exact ZK h1 h3 cs.toList 0 h c hb h2 h4 H
      ·cases hh
     ·cases hh
    ·exact H.elim
   ·rename_i D0
    have Wm:v.cells.toList=[v]:=by cases v<;>first|rfl|exact (D0 _ rfl).elim
    rw[Wm]
    unfold Sz at H
    split at H
    ·rename_i h' hh
     unfold XN at hh
     split at hh
     ·rename_i c e lo hi hb
      split at hh
      ·rename_i Lm
       obtain⟨h1,h2,h3,h4⟩:=Lm
       simp only[Option.some.injEq]at hh
       subst hh
       refine ZK h1 h3 [v] 0 h c hb (by simp;omega) (by simpa using h4) ?_
       have e1:(ZW c.toList (a.off+0) [v]).toArray=c.setIfInBounds a.off v:=by
        rw[JP,Nat.add_zero]
        apply Array.toList_inj.1
        rw[Array.toList_setIfInBounds]
        cases h9:(c.toList.set a.off v)<;>simp[ZW]
       rw[e1];exact H
      ·cases hh
     ·cases hh
    ·exact H.elim
  ·exact H.elim
 ·exact H.elim
theorem W7 {t:TypeId} {p:Value} {i:Nat} (H:Js (tf P t i) p K h):hw P (Instr.fieldAt t p i) K h:=by
 unfold Js at H
 split at H
 ·rename_i o a hf
  unfold tf at hf
  split at hf
  ·rename_i fs hu
   unfold Instr.fieldAt
   rw[Za,Zh hu]
   cases NI:fs[i]? with
   | none=>rw[NI]at hf;cases hf
   | some f=>
    rw[NI]at hf
    simp only[Option.bind_some]at hf
    split at hf
    ·rename_i m hm
     simp only[Option.some.injEq]at hf
     subst hf
     simp only[NI]
     simp only[Instr.sureAddr,fieldPlace,Za,Zi,run_sizeOf hm,if_neg (Nat.succ_ne_zero m)]
     exact H
    ·cases hf
  ·cases hf
 ·exact H.elim
theorem PA {t:TypeId} {p i:Value} (H:MN (Yp P t) (XD P t) (tn P) p i K h):hw P (Instr.indexAt t p i) K h:=by
 unfold MN at H
 split at H
 ·rename_i k i
  split at H
  ·rename_i len e a ha hs
   split at H
   ·rename_i n hn
    unfold Yp at ha
    split at ha
    ·rename_i m e' hu
     simp only[Option.some.injEq,Prod.mk.injEq]at ha
     obtain⟨rfl,rfl⟩:=ha
     split at H
     ·rename_i hb
      simp only[Instr.indexAt,asIntOf,Instr.sureAddr,Za,Zi,Zh hu,if_pos hb,run_sizeOf hn]
      exact H
     ·exact H.elim
    ·cases ha
   ·exact H.elim
  ·rename_i e a len cap ha hs
   split at H
   ·rename_i n hn
    unfold XD at hs
    split at hs
    ·rename_i e' hu
     simp only[Option.some.injEq]at hs
     subst hs
     split at H
     ·rename_i hb
      simp only[Instr.indexAt,asIntOf,Instr.sureAddr,Za,Zi,Zh hu,if_pos hb,run_sizeOf hn]
      exact H
     ·exact H.elim
    ·cases hs
   ·exact H.elim
  ·exact H.elim
 ·exact H.elim
theorem UG {v:Value} {i:Nat} (H:YE v i K h):hw P (Instr.extract v i) K h:=by
 unfold YE at H
 split at H
 ·rename_i vs
  unfold QE at H
  split at H
  ·rename_i v hv;simp only[Instr.extract,hv];exact H
  ·exact H.elim
 ·exact H.elim
theorem Tj {x:Operand} {f:Value} {c:Call} {args:List Value} (hc:c.callee=.value x) (hf:ev F x=f) (ha:(c.args.map (ev F)).toList=args) (H:Qt P T f args K h) :
  hw P (do let d ←resolve (ev F) c ty;invoke d.target d.args) (Z9 P T K) h:=by
 unfold Qt at H
 split at H
 ·rename_i f first captured
  have e:first++c.args.map (ev F)++captured=(first.toList++args++captured.toList).toArray:=by rw[←ha];simp
  by_cases hg:goes P f=true
  case neg=>
   rw[if_neg hg]at H
   simp only[resolve,hc,hf,Deferred.ofValue,Za,Zi,invoke]
   rw[e]
   exact H
  rw[if_pos hg]at H
  unfold goes at hg
  split at hg
  ·rename_i fn PB
   simp only[Bool.and_eq_true,Bool.not_eq_true']at hg
   have KU:fn.body.isNone=false:=by
    cases hb:fn.body with
    | none=>rw[hb]at hg;simp at hg
    | some _=>rfl
   simp only[resolve,hc,hf,Deferred.ofValue,Za,Zi,invoke,callFunc,Th,PB,hg.1,Bool.false_eq_true,if_false,KU]
   rw[e]
   exact H
  ·cases hg
 ·exact H.elim
theorem QN {t:TypeId} {z:List Value} (hz:tz P t=some z):∃v,v.cells=z.toArray∧∀{Q:Value→Hp→Prop} {h:Hp},hw P (zeroValue t) Q h=Q v h:=by
 unfold tz at hz
 cases hi:P.info? t with
 | none=>rw[hi]at hz;cases hz
 | some i=>
  rw[hi]at hz
  cases Tk:i.zero with
  | none=>rw[Option.bind_some,Tk]at hz;cases hz
  | some v=>
   rw[Option.bind_some,Tk]at hz
   simp only[Option.map_some,Option.some.injEq]at hz
   refine⟨v,by rw[←hz,Array.toArray_toList],fun {Q h}=>?_⟩
   unfold zeroValue
   rw[Za,ZX hi]
   simp only[Tk]
   rfl
theorem U1 (off:Nat):∀(vs:List Value) (k:Nat) (cells:Array Value),
  ((vs.zipIdx k).foldl (fun (cs:Array Value) (x:Value × Nat)=>cs.setIfInBounds (off+x.2) x.1) cells).toList=ZW cells.toList (off+k) vs
 | [],k,cells=>by cases h:cells.toList<;>simp[ZW,h]
 | v :: vs,k,cells=>by
  rw[List.zipIdx_cons,List.foldl_cons,U1 off vs (k+1),JP,Array.toList_setIfInBounds,Nat.add_assoc]
theorem QO {place:Nat→Option (Nat × Nat)}:∀(parts:List (Nat × Value)) (cs:List Value) (HS:List Value),YF place cs parts=some HS→Instr.fill place cs.toArray parts=some HS.toArray
 | [],cs,HS,h=>by simp only[YF,Option.some.injEq]at h;subst h;rfl
 | (i,v) :: l,cs,HS,h=>by
  unfold YF at h
  unfold Instr.fill
  cases hp:place i with
  | none=>rw[hp]at h;cases h
  | some os=>
   obtain⟨o,s⟩:=os
   rw[hp]at h
   simp only at h ⊢
   split at h
   ·rename_i hc
    have U0:v.cells.size=s:=by rw[←JK];simpa using hc.1
    have JO:¬((decide (v.cells.size≠s)||decide (o+v.cells.size>cs.toArray.size))=true):=by
     rw[U0];simp;omega
    rw[if_neg JO]
    have e:(v.cells.zipIdx.foldl (fun (cs:Array Value) (x:Value × Nat)=>cs.setIfInBounds (o+x.2) x.1) cs.toArray)=(ZW cs o (cl v)).toArray:=by
     apply Array.toList_inj.1
     have:=U1 o (cl v) 0 cs.toArray
     rw[←JK,Array.zipIdx,←Array.foldl_toList]
     have e3:(cl v).mapIdx (fun i a=>(a,i))=(cl v).zipIdx 0:=by
      apply List.ext_getElem?
      intro i
      simp[List.getElem?_zipIdx]
     simpa [Array.zipIdx,e3] using this
    have key:=QO l _ _ h
    rw[←e]at key
    exact key
   ·cases h
theorem Yx {α:Type} (l:List α) (n:Nat):nth l n=l[n]?:=by
 induction l generalizing n with
 | nil=>simp[nth]
 | cons x l ih=>cases n<;>simp[nth,ih]
theorem SD (F:Env) (l:List (Nat × Operand)):Td F l=l.map fun x=>(x.1,ev F x.2):=by
 induction l with
 | nil=>rfl
 | cons x l ih=>obtain⟨i,x⟩:=x;simp[Td,ih]
theorem run_places:∀(l:List Field) (Q:List (Nat × Nat)→Hp→Prop) (pl:List (Nat × Nat)),l.mapM (fun f:Field=>(tn P f.type).map fun n=>(f.offset,n))=some pl →
  Q pl h→hw P (l.mapM fun f:Field=>do pure (f.offset,←sizeOf f.type)) Q h
 | [],Q,pl,hp,H=>by
  simp only[List.mapM_nil,pure,Option.some.injEq]at hp
  subst hp
  exact H
 | f :: l,Q,pl,hp,H=>by
  rw[List.mapM_cons]at hp
  cases hn:tn P f.type with
  | none=>rw[hn]at hp;cases hp
  | some n=>
   rw[hn]at hp
   cases hl:l.mapM (fun f:Field=>(tn P f.type).map fun n=>(f.offset,n)) with
   | none=>simp[hl]at hp
   | some D1=>
    simp[hl]at hp
    subst hp
    rw[List.mapM_cons,Za,Za,run_sizeOf hn]
    show hw P (_ >>= _) Q h
    rw[Za]
    exact run_places l _ D1 hl H
theorem W9 {t:TypeId} {parts:Array (Nat × Operand)} (H:Jt (tz P t) (Lk P t) (Yp P t) (tn P) (Td F parts.toList) K h):hw P (Instr.build t (parts.map fun (i,x)=>(i,ev F x))) K h:=by
 have e1:(parts.map fun (i,x)=>(i,ev F x)).toList=Td F parts.toList:=by rw[SD,Array.toList_map]
 unfold Instr.build
 rw[e1]
 unfold Jt at H
 split at H
 ·rename_i z pl hz Kz _
  obtain⟨v,hv,Ln⟩:=QN hz
  rw[Za,Ln,Za,hv]
  unfold Lk at Kz
  split at Kz
  ·rename_i fs hu
   rw[Zh hu]
   simp only
   rw[Za,←Array.toArray_toList (xs:=fs),List.mapM_toArray,map_eq_pure_bind,Za]
   refine run_places fs.toList _ pl Kz ?_
   unfold QZ at H
   split at H
   ·rename_i cs Xc
    have e2:(fun i=>pl.toArray[i]?)=nth pl:=by funext i;rw[Yx];simp
    have:=QO _ _ _ Xc
    rw[←e2]at this
    simp only[Zi,this]
    exact H
   ·exact H.elim
  ·cases Kz
 ·rename_i z n e hz _ ha
  obtain⟨v,hv,Ln⟩:=QN hz
  rw[Za,Ln,Za,hv]
  unfold Yp at ha
  split at ha
  ·rename_i n' e' hu
   simp only[Option.some.injEq,Prod.mk.injEq]at ha
   obtain⟨rfl,rfl⟩:=ha
   rw[Zh hu]
   simp only
   unfold QK at H
   split at H
   ·rename_i m hm
    rw[Za,run_sizeOf hm]
    unfold QZ at H
    split at H
    ·rename_i cs Xc
     have:=QO _ _ _ Xc
     have e2:(fun i=>some (i*m,m))=JM m:=rfl
     rw[e2]
     simp only[this]
     exact H
    ·exact H.elim
   ·exact H.elim
  ·cases ha
 ·exact H.elim
theorem SE (z:List Value) (hz:z≠[]):∀(len:Nat),(Array.range (len*z.length)).map (fun j=>z.toArray[j%z.toArray.size]!)=(YT len z).toArray:=by
 have Tl:0<z.length:=List.length_pos_iff.2 hz
 have hlen:∀len,(YT len z).length=len*z.length:=by
  intro len
  induction len with
  | zero=>simp[YT]
  | succ n ih=>simp[YT,ih,Nat.add_mul,Nat.add_comm]
 have Ll:∀len j,j<len*z.length→(YT len z)[j]? = z[j%z.length]?:=by
  intro len
  induction len with
  | zero=>intro j hj;simp at hj
  | succ n ih=>
   intro j hj
   simp only[YT]
   by_cases HP:j<z.length
   ·rw[List.getElem?_append_left HP,Nat.mod_eq_of_lt HP]
   ·rw[List.getElem?_append_right (by omega),ih (j-z.length) (by rw[Nat.add_mul]at hj;omega)]
    rw[Nat.mod_eq_sub_mod (by omega:j ≥ z.length)]
 intro len
 apply Array.ext_getElem?
 intro j
 by_cases hj:j<len*z.length
 ·have GL:j%z.length<z.length:=Nat.mod_lt _ Tl
  simp[hj,Ll len j hj,GL]
 ·have h2:(YT len z)[j]? = none:=List.getElem?_eq_none (by rw[hlen];omega)
  simp[hj,h2]
theorem XR (z:List Value):∀n,(YT n z).length=n*z.length:=by
 intro len
 induction len with
 | zero=>simp[YT]
 | succ n ih=>simp[YT,ih,Nat.add_mul,Nat.add_comm]
theorem U2:∀(parts:List (Nat × Value)) (pre vs rest:List Value),Te pre.length parts=some vs→rest.length=parts.length→YF (JM 1) (pre++rest) parts=some (pre++vs)
 | [],pre,vs,rest,h,hl=>by
  simp only[Te,Option.some.injEq]at h
  subst h
  have:rest=[]:=List.eq_nil_of_length_eq_zero (by simpa using hl)
  simp[YF,this]
 | (i,v) :: l,pre,vs,rest,h,hl=>by
  unfold Te at h
  split at h
  ·rename_i hc
   obtain⟨rfl,hv⟩:=hc
   cases hs:Te (pre.length+1) l with
   | none=>rw[hs]at h;cases h
   | some us=>
    rw[hs]at h
    simp only[Option.map_some,Option.some.injEq]at h
    subst h
    cases rest with
    | nil=>simp at hl
    | cons r rest=>
     have Z7:cl v=[v]:=by cases v<;>first|rfl|(simp[Yb]at hv)
     have e1:ZW (pre++r :: rest) pre.length [v]=(pre++[v])++rest:=by
      rw[JP]
      simp[ZW]
     have ih:=U2 l (pre++[v]) us rest (by simpa using hs) (by simpa using hl)
     simp only[YF,JM,Z7,Nat.mul_one,List.length_cons,List.length_nil,List.length_append]
     rw[if_pos (by simp),e1,ih]
     simp
  ·cases h
theorem UH {t:TypeId} {len:Nat} {parts:Array (Nat × Operand)} (H:JN (XD P t) (tn P) (tz P) len (Td F parts.toList) K h):hw P (Instr.buildSlice t len (parts.map fun (i,x)=>(i,ev F x))) K h:=by
 have e1:(parts.map fun (i,x)=>(i,ev F x)).toList=Td F parts.toList:=by rw[SD,Array.toList_map]
 unfold Instr.buildSlice
 rw[e1]
 unfold JN at H
 split at H
 ·rename_i e he
  unfold XD at he
  split at he
  ·rename_i e' hu
   simp only[Option.some.injEq]at he
   subst he
   unfold X4 at H
   split at H
   ·rename_i n z hn hz
    split at H
    ·rename_i hc
     obtain⟨S2,hle⟩:=hc
     unfold SA at H
     split at H
     ·rename_i l hl
      have KV:YF (JM n) (YT len z) (Td F parts.toList)=some l:=by
       unfold QL at hl
       split at hl
       ·rename_i hc
        obtain⟨rfl,Kz⟩:=hc
        have:=U2 (Td F parts.toList) [] l (YT len z) hl (by rw[XR,S2,Kz,Nat.mul_one])
        simpa using this
       ·exact hl
      rw[Za,Zh hu]
      simp only
      rw[Za,run_sizeOf hn,if_neg (by omega)]
      have fin:∀z':Array Value,(Array.range (len*n)).map (fun j=>z'[j%z'.size]!)=(YT len z).toArray→hw P (match Instr.fill (fun i=>some (i*n,n)) ((Array.range (len*n)).map (fun j=>z'[j%z'.size]!)) (Td F parts.toList) with
        | some cells=>do
         let a ←newRow e' cells
         pure (Value.slice (some a) len len)
        | x=>stuck "buildSlice: a part of the wrong size") K h:=by
       intro z' KW
       have:=QO _ _ _ KV
       have e2:(fun i=>some (i*n,n))=JM n:=rfl
       rw[e2,KW]
       simp only[this]
       exact H
      split
      ·rename_i h0
       refine fin #[] ?_
       have:(YT len z).length=0:=by rw[XR,S2,h0]
       rw[List.eq_nil_of_length_eq_zero this,h0]
       simp
      ·rename_i h0
       obtain⟨v,hv,hr⟩:=QN hz
       rw[Za,hr]
       refine fin v.cells ?_
       have:z≠[]:=by intro e;subst e;simp at S2;subst S2;simp at h0
       rw[hv,←S2]
       exact SE z this len
     ·exact H.elim
    ·exact H.elim
   ·exact H.elim
  ·cases he
 ·exact H.elim
theorem Q0 {t:TypeId} {cs:Array Value} {o:Nat} (H:Qu (ta P t) (tn P t) cs.toList o K h):hw P (part t cs o) K h:=by
 unfold Qu at H
 unfold part
 rw[Za]
 split at H
 ·rename_i n ha hn
  rw[X5 ha,if_pos rfl,Za,run_sizeOf hn]
  have e:(cs.extract o (o+n))=((cs.toList.drop o).take n).toArray:=by
   apply Array.toList_inj.1
   simp[List.extract_eq_take_drop]
  rw[e]
  exact H
 ·rename_i ha
  rw[X5 ha,if_neg (by simp)]
  unfold QE at H
  split at H
  ·rename_i v hv
   rw[Yx]at hv
   have:cs[o]? = some v:=by rw[←Array.getElem?_toList];exact hv
   simp only[this]
   exact H
  ·exact H.elim
 ·exact H.elim
theorem S3 {t:TypeId} {x:Value} {i:Nat} (H:Pz (HN P t i) (ta P) (tn P) x K h):hw P (Instr.field t x i) K h:=by
 unfold Pz at H
 split at H
 ·rename_i o ft cs hf
  unfold HN at hf
  split at hf
  ·rename_i fs hu
   unfold Instr.field
   rw[Za,Zh hu]
   cases NI:fs[i]? with
   | none=>rw[NI]at hf;cases hf
   | some f=>
    rw[NI]at hf
    simp only[Option.map_some,Option.some.injEq,Prod.mk.injEq]at hf
    obtain⟨rfl,rfl⟩:=hf
    simp only[NI]
    exact Q0 H
  ·cases hf
 ·exact H.elim
theorem S5 {t:TypeId} {x i:Value} (H:Tf (Yp P t) (Jr P t) (ta P) (tn P) x i K h):hw P (Instr.index t x i) K h:=by
 unfold Tf at H
 split at H
 ·rename_i k i
  split at H
  ·rename_i len e cs ha _
   unfold Yp at ha
   split at ha
   ·rename_i n' e' hu
    simp only[Option.some.injEq,Prod.mk.injEq]at ha
    obtain⟨rfl,rfl⟩:=ha
    unfold SB at H
    split at H
    ·rename_i m hm
     split at H
     ·rename_i hc
      unfold Instr.index
      simp only[asIntOf,Za,Zi,Zh hu,if_pos hc,run_sizeOf hm]
      exact Q0 (by rw[hm];exact H)
     ·exact H.elim
    ·exact H.elim
   ·cases ha
  ·rename_i s _ hs
   unfold Jr at hs
   split at hs
   ·rename_i hu
    split at H
    ·rename_i hc
     unfold Instr.index
     have ZH:i.toNat<s.size:=by omega
     have e:s[i.toNat]? = some s[i.toNat]:=by exact getElem?_pos s i.toNat ZH
     have e2:s.data.toList.getD i.toNat 0=s[i.toNat]:=by
      have D2:i.toNat<s.data.toList.length:=by simpa using ZH
      rw[List.getD_eq_getElem?_getD,List.getElem?_eq_getElem D2,Option.getD_some]
      rfl
     simp only[asIntOf,Za,Zi,Zh hu,if_pos hc.1,e]
     rw[e2]at H
     exact H
    ·exact H.elim
   ·cases hs
  ·exact H.elim
 ·exact H.elim
theorem Q1 {x:Option Value} {v:Value} {y n:Nat} {c:BoundsCode} (hx:x=some v) (hs:sb x 0 y=some n) {Q:Nat→Hp→Prop}:hw P (Instr.sliceBound v y c) Q h=Q n h:=by
 subst hx
 unfold sb at hs
 split at hs
 ·rename_i he;cases he
 ·rename_i k i he
  simp only[Option.some.injEq]at he
  subst he
  split at hs
  ·rename_i hc
   simp only[Option.some.injEq]at hs
   subst hs
   unfold Instr.sliceBound
   simp only[asIntOf,Za,Zi,if_pos hc]
  ·cases hs
 ·cases hs
theorem Ju {GM:Bool} {len cap b l:Nat} {lo hi:Option Value} (hb:sb hi len cap=some b) (hl:sb lo 0 b=some l) {Q:Nat × Nat × Nat→Hp→Prop} (H:Q (l,b,cap) h):hw P (Instr.sliceBounds GM len cap lo hi none) Q h:=by
 have h2:∀{c:BoundsCode},hw P (match lo with
   | some v=>do
    let l ←Instr.sliceBound v b c
    pure (l,b,cap)
   | none=>do
    let l ←pure 0
    pure (l,b,cap)) Q h:=by
  intro c
  cases lo with
  | none=>simp only[sb,Option.some.injEq]at hl;subst hl;exact H
  | some v=>
   simp only
   rw[Za,Q1 rfl hl]
   exact H
 unfold Instr.sliceBounds
 rw[Za]
 show hw P (pure cap) _ h
 rw[Zi]
 cases hi with
 | none=>
  simp only[sb,Option.some.injEq]at hb
  subst hb
  exact h2
 | some v=>
  have Jg:sb (some v) 0 cap=some b:=by unfold sb at hb ⊢;cases v<;>simp at hb ⊢<;>exact hb
  simp only
  rw[Za,Q1 rfl Jg]
  exact h2
theorem Va {GM:Bool} {len cap m b l:Nat} {lo:Option Value} {hv mv:Value} (hm:sb (some mv) 0 cap=some m) (hb:sb (some hv) len m=some b) (hl:sb lo 0 b=some l) {Q:Nat × Nat × Nat→Hp→Prop} (H:Q (l,b,m) h):hw P (Instr.sliceBounds GM len cap lo (some hv) (some mv)) Q h:=by
 have Jg:sb (some hv) 0 m=some b:=by unfold sb at hb ⊢;cases hv<;>simp at hb ⊢<;>exact hb
 unfold Instr.sliceBounds
 rw[Za]
 show hw P (Instr.sliceBound mv cap _) _ h
 rw[Q1 rfl hm,Za,Q1 rfl Jg]
 cases lo with
 | none=>simp only[sb,Option.some.injEq]at hl;subst hl;exact H
 | some v=>
  show hw P (Instr.sliceBound v b _ >>= _) _ h
  rw[Za,Q1 rfl hl]
  exact H
theorem S6 {t:TypeId} {x:Value} {lo hi mx:Option Operand} (H:UF (Yp P t) (XD P t) (Jr P t) (tn P) x (SC F lo) (SC F hi) (SC F mx) K h):hw P (Instr.sliceAt t x (lo.map (ev F)) (hi.map (ev F)) (mx.map (ev F))) K h:=by
 have e:∀o,SC F o=o.map (ev F):=fun o=>by cases o<;>rfl
 rw[e,e,e]at H
 generalize lo.map (ev F)=lo at *
 generalize hi.map (ev F)=hi at *
 generalize mx.map (ev F)=mx at *
 unfold UF at H
 split at H
 ·rename_i mv a len cap e ha hs
  unfold XD at hs
  split at hs
  ·rename_i e' hu
   simp only[Option.some.injEq]at hs
   subst hs
   split at H
   ·rename_i hv m hm
    unfold XE at H
    split at H
    ·rename_i n b hn hb
     split at H
     ·rename_i l hl
      unfold Instr.sliceAt
      rw[Za,Zh hu]
      simp only
      unfold Instr.slice
      rw[Za,Zh hu]
      simp only
      rw[Za]
      refine Va hm hb hl ?_
      simp only[Za,run_sizeOf hn,Zi]
      exact H
     ·exact H.elim
    ·exact H.elim
   ·exact H.elim
  ·cases hs
 ·rename_i a len cap e ha hs
  unfold XD at hs
  split at hs
  ·rename_i e' hu
   simp only[Option.some.injEq]at hs
   subst hs
   unfold XE at H
   split at H
   ·rename_i n b hn hb
    split at H
    ·rename_i l hl
     unfold Instr.sliceAt
     rw[Za,Zh hu]
     simp only
     unfold Instr.slice
     rw[Za,Zh hu]
     simp only
     rw[Za]
     refine Ju hb hl ?_
     simp only[Za,run_sizeOf hn,Zi]
     exact H
    ·exact H.elim
   ·exact H.elim
  ·cases hs
 ·rename_i a len e ha hs
  unfold Yp at ha
  split at ha
  ·rename_i n' e' hu
   simp only[Option.some.injEq,Prod.mk.injEq]at ha
   obtain⟨rfl,rfl⟩:=ha
   unfold XE at H
   split at H
   ·rename_i n b hn hb
    split at H
    ·rename_i l hl
     unfold Instr.sliceAt
     rw[Za,Zh hu]
     simp only[Instr.sureAddr,Za,Zi]
     refine Ju hb hl ?_
     simp only[Za,run_sizeOf hn,Zi]
     have e3:(if n'=l then some a else (some a).map (·.add (l*n)))=some (if n'=l then a else a.add (l*n)):=by split<;>rfl
     rw[e3]at H
     exact H
    ·exact H.elim
   ·exact H.elim
  ·cases ha
 ·rename_i s ha hs KX
  unfold Jr at KX
  split at KX
  ·rename_i hu
   split at H
   ·rename_i b hb
    split at H
    ·rename_i l hl
     unfold Instr.sliceAt
     rw[Za,Zh hu]
     simp only
     unfold Instr.slice
     rw[Za,Zh hu]
     simp only[Option.isSome_none,Bool.false_eq_true,if_false]
     rw[Za]
     refine Ju hb hl ?_
     exact H
    ·exact H.elim
   ·exact H.elim
  ·cases KX
 ·exact H.elim
theorem PC {t:TypeId} {l c:Value} (H:HO (XD P t) (tn P) (tb P) (tz P) l c K h):hw P (Instr.makeSlice t l c) K h:=by
 unfold HO at H
 split at H
 ·rename_i e k l k' c he
  unfold XD at he
  split at he
  ·rename_i e' hu
   simp only[Option.some.injEq]at he
   subst he
   unfold NF at H
   split at H
   ·rename_i n bytes z hn QF hz
    split at H
    ·rename_i hc
     obtain⟨S2,h0,HT,D3,Xd⟩:=hc
     obtain⟨i0,Qf⟩:∃i,P.info? e'=some i:=by
      unfold tn at hn
      cases hi:P.info? e' with
      | none=>rw[hi]at hn;cases hn
      | some i=>exact⟨i,rfl⟩
     have S7:i0.bytes=bytes:=by unfold tb at QF;rw[Qf]at QF;simpa using QF
     have w1:IntKind.i64.wrap l=l:=IntWalk.i64_in l ⟨by omega,by omega⟩
     have w2:IntKind.i64.wrap c=c:=IntWalk.i64_in c ⟨by omega,by omega⟩
     have S8:¬((bytes:Int)*c>2 ^ 48):=by omega
     unfold Instr.makeSlice
     simp only[Za,Zh hu,asInt,asIntOf,Zi,ZX Qf,w1,w2,S7]
     have JO:¬((decide (c<0)||decide ((bytes:Int)*c>2 ^ 48)||decide (l<0)||decide (l>c))=true):=by
      simp;omega
     rw[if_neg JO]
     have Wn:∀{Q:Unit→Hp→Prop} (b:Nat) (g:Hp),Q () g→hw P (askRoom b) Q g:=fun {Q} b g q=>by
      unfold askRoom;split<;>exact q
     rw[Za]
     refine Wn _ _ ?_
     rw[Za,run_sizeOf hn]
     have fin:∀z':Array Value,(Array.range (c.toNat*n)).map (fun j=>z'[j%z'.size]!)=(YT c.toNat z).toArray→hw P (do
       let a ←newRow e' ((Array.range (c.toNat*n)).map (fun j=>z'[j%z'.size]!))
       pure (Value.slice (some a) l.toNat c.toNat)) K h:=by
      intro z' KW
      rw[KW]
      exact H
     split
     ·rename_i h0
      refine fin #[] ?_
      have:(YT c.toNat z).length=0:=by rw[XR,S2,h0]
      rw[List.eq_nil_of_length_eq_zero this,h0]
      simp
     ·rename_i h0
      obtain⟨v,hv,hr⟩:=QN hz
      rw[Za,hr]
      refine fin v.cells ?_
      have:z≠[]:=by intro e;subst e;simp at S2;subst S2;simp at h0
      rw[hv,←S2]
      exact SE z this c.toNat
    ·exact H.elim
   ·exact H.elim
  ·cases he
 ·exact H.elim
theorem Vb {op:Op} (H:Je P T op ty K F h):WW P T ⟨none,op,ty, "", #[],none⟩ K F h:=by
 have lift:∀{s:Sem Value},hw P s K h→hw P (do pure (Next.value (←s))) (Z9 P T K) h:=fun {s} H=>by rw[Za];exact H
 unfold Je at H
 split at H
 ·exact H
 ·exact H
 ·rename_i c a b
  show hw P (do pure (.value (if ←asBool (ev F c) then ev F a else ev F b))) (Z9 P T K) h
  unfold UZ at H
  split at H
  ·rename_i t ht
   rw[ht];cases t<;>exact H
  ·exact H.elim
 ·rename_i e
  refine lift ?_
  unfold Py tz at H
  split at H
  ·rename_i l hl
   cases hi:P.info? e with
   | none=>rw[hi]at hl;cases hl
   | some i=>
    rw[hi]at hl
    cases hz:i.zero with
    | none=>rw[Option.bind_some,hz]at hl;cases hl
    | some z=>
     rw[Option.bind_some,hz]at hl
     simp only[Option.map_some,Option.some.injEq]at hl
     subst hl
     simp only[Instr.alloc,zeroValue,Za,ZX hi,hz,newVar,newRow,newObj,Zi,hw]
     simpa using H
  ·exact H.elim
 ·rename_i e x
  refine lift ?_
  simp only[Py,JK]at H
  simp only[Instr.box,newVar,newRow,newObj,Za,Zi]
  exact H
 ·exact lift (Ti H)
 ·refine (?_:hw P (do Instr.storeAt _ _ _;pure Next.skip) (Z9 P T K) h)
  rw[Za]
  exact W5 H
 ·exact lift (W7 H)
 ·exact lift (PA H)
 ·rename_i x
  unfold Tc at H
  split at H
  ·rename_i a hx
   show hw P (match ev F x with|.pointer none|.nilIface|.nilFunc=>_|.func (.method name) first captured=>_|x=>_) _ h
   rw[hx];exact H
  ·rename_i f a b hx
   show hw P (match ev F x with|.pointer none|.nilIface|.nilFunc=>_|.func (.method name) first captured=>_|x=>_) _ h
   rw[hx];exact H
  ·exact H.elim
 ·exact lift H
 ·exact lift H
 ·exact lift H
 ·exact lift (UG H)
 ·rename_i fn first captured
  refine lift ?_
  have e1:∀l:Array Operand,l.map (ev F)=(Pk F l.toList).toArray:=fun l=>by rw[Wl,←Array.toList_map]
  show hw P (Instr.makeFunc fn (first.map (ev F)) (captured.map (ev F))) K h
  rw[e1,e1];exact H
 ·rename_i f args ts
  exact Tj (x:=f) (c:=⟨.value f,args,ts⟩) rfl rfl (by rw[Wl];simp) H
 ·rename_i b args ts
  have e1:args.map (ev F)=(Pk F args.toList).toArray:=by rw[Wl,←Array.toList_map]
  unfold UE at H
  rw[←e1]at H
  exact H
 ·exact lift (W9 H)
 ·exact lift (UH H)
 ·exact lift (S3 H)
 ·exact lift (S5 H)
 ·exact lift (S6 H)
 ·exact lift (PC H)
 ·exact H
theorem ZY {o:Oper} (H:Je P T o.op o.type K F h):WW P T o K F h:=Vb H
def Y1:List Oper→Env→Nat→Value
 | [],_,_=>undef
 | o :: _,F,0=>match o.dst with|some t=>F t|none=>undef
 | _ :: l,F,n+1=>Y1 l F n
def ZZ (v:Value) (b:Bool) (A B:Prop):Prop:=match v with|.bool c=>if c=b then A else B|_=>B
def Jf (P:Program) (T:World) (ops:List Oper) (N:Env→Hp→Prop):List Oper→Env→Hp→Prop
 | [],F,h=>N F h
 | ⟨d,op,ty,_,_,none⟩ :: l,F,h=>Je P T op ty (fun v h'=>Jf P T ops N l (Zl F d v) h') F h
 | ⟨d,op,ty,_,_,some (j,b)⟩ :: l,F,h=>ZZ (Y1 ops F j) b (Je P T op ty (fun v h'=>Jf P T ops N l (Zl F d v) h') F h) (Jf P T ops N l (Zl F d undef) h)
theorem UI (ops:List Oper) (F:Env):∀j,YD ops.toArray F j=match Y1 ops F j with|.bool b=>some b|_=>none:=by
 intro j
 unfold YD
 rw[List.getElem?_toArray]
 induction ops generalizing j with
 | nil=>rfl
 | cons o l ih=>
  cases j with
  | zero=>simp only[List.getElem?_cons_zero,Option.bind_some,Y1];cases o.dst<;>rfl
  | succ j=>simp only[List.getElem?_cons_succ,Y1];exact ih j
theorem ZB (ops:List Oper) (F:Env) (d:Option Tmp) (op:Op) (pos:String) (YN:Array Edge) (j:Nat) (b:Bool) {A B:Prop} (H:ZZ (Y1 ops F j) b A B) :
  (Zp ops.toArray ⟨d,op,ty,pos,YN,some (j,b)⟩ F=true∧A)∨(Zp ops.toArray ⟨d,op,ty,pos,YN,some (j,b)⟩ F=false∧B):=by
 unfold Zp Region.wanted
 simp only[UI]
 unfold ZZ at H
 split at H
 ·rename_i c hc
  split at H
  ·rename_i SF;exact .inl ⟨by simp[SF],H⟩
  ·rename_i SF;exact .inr ⟨by simpa using SF,H⟩
 ·rename_i ZC
  refine .inr ⟨?_,H⟩
  cases hv:Y1 ops F j<;>first|rfl|exact (ZC _ hv).elim
theorem Yf {op:Op} {K':Value→Hp→Prop} (hk:∀v h,K v h→K' v h) (H:Je P T op ty K F h):WW P T ⟨none,op,ty, "", #[],none⟩ K' F h:=JG hk (Vb H)
theorem Z8 {ops:List Oper} {N:Env→Hp→Prop}:∀(l:List Oper) (F:Env) (h:Hp),Jf P T ops N l F h→UD P T ops.toArray N l F h
 | [],F,h,H=>H
 | ⟨d,op,ty,pos,YN,none⟩ :: l,F,h,H=>by
  show (if Zp ops.toArray _ F=true then _ else _)
  rw[if_pos (by rfl)]
  exact Yf (fun v h' q=>Z8 l _ _ q) H
 | ⟨d,op,ty,pos,YN,some (j,b)⟩ :: l,F,h,H=>by
  show (if Zp ops.toArray _ F=true then _ else _)
  rcases ZB ops F d op pos YN j b H with⟨hw,H⟩|⟨hw,H⟩
  ·rw[if_pos hw]
   exact Yf (fun v h' q=>Z8 l _ _ q) H
  ·rw[hw,if_neg (by simp)]
   exact Z8 l _ _ H
def Xp (P:Program) (T:World) (ops:List Oper) (S:Hp→Prop) (N:Env→Hp→Prop):List (Nat × Bool × Oper)→Env→Hp→Prop
 | [],F,h=>N F h
 | (_,true,⟨d,op,ty,_,_,none⟩) :: l,F,h=>∃v,(∀h',S h'→Je P T op ty (fun v' Qc=>v'=v∧Qc=h') F h')∧Xp P T ops S N l (Zl F d v) h
 | (_,false,⟨d,op,ty,_,_,none⟩) :: l,F,h=>Je P T op ty (fun v h'=>S h'∧Xp P T ops S N l (Zl F d v) h') F h
 | (_,true,⟨d,op,ty,_,_,some (j,b)⟩) :: l,F,h=>ZZ (Y1 ops F j) b (∃v,(∀h',S h'→Je P T op ty (fun v' Qc=>v'=v∧Qc=h') F h')∧Xp P T ops S N l (Zl F d v) h) (Xp P T ops S N l (Zl F d undef) h)
 | (_,false,⟨d,op,ty,_,_,some (j,b)⟩) :: l,F,h=>ZZ (Y1 ops F j) b (Je P T op ty (fun v h'=>S h'∧Xp P T ops S N l (Zl F d v) h') F h) (Xp P T ops S N l (Zl F d undef) h)
theorem ZL {ops:List Oper} {S:Hp→Prop} {N:Env→Hp→Prop}:∀(l:List (Nat × Bool × Oper)) (F:Env) (h:Hp),Xp P T ops S N l F h→JI P T ops.toArray S N l F h
 | [],F,h,H=>H
 | (i,true,⟨d,op,ty,pos,YN,none⟩) :: l,F,h,H=>by
  show (if Zp ops.toArray _ F=true then _ else _)
  rw[if_pos (by rfl)]
  obtain⟨v,hv,H⟩:=H
  exact⟨v,fun h' hs=>ZY (hv h' hs),ZL l _ _ H⟩
 | (i,false,⟨d,op,ty,pos,YN,none⟩) :: l,F,h,H=>by
  show (if Zp ops.toArray _ F=true then _ else _)
  rw[if_pos (by rfl)]
  exact Yf (fun v h' q=>⟨q.1,ZL l _ _ q.2⟩) H
 | (i,true,⟨d,op,ty,pos,YN,some (j,b)⟩) :: l,F,h,H=>by
  show (if Zp ops.toArray _ F=true then _ else _)
  rcases ZB ops F d op pos YN j b H with⟨hw,H⟩|⟨hw,H⟩
  ·rw[if_pos hw]
   obtain⟨v,hv,H⟩:=H
   exact⟨v,fun h' hs=>ZY (hv h' hs),ZL l _ _ H⟩
  ·rw[hw,if_neg (by simp)]
   exact ZL l _ _ H
 | (i,false,⟨d,op,ty,pos,YN,some (j,b)⟩) :: l,F,h,H=>by
  show (if Zp ops.toArray _ F=true then _ else _)
  rcases ZB ops F d op pos YN j b H with⟨hw,H⟩|⟨hw,H⟩
  ·rw[if_pos hw]
   exact Yf (fun v h' q=>⟨q.1,ZL l _ _ q.2⟩) H
  ·rw[hw,if_neg (by simp)]
   exact ZL l _ _ H
theorem VS.Lo {n:Nat} {N:Env→Hp→Prop} {X:Nat→Env→Hp→Prop} {R:Env→Hp→Prop} {id:Nat} {ops:List Oper} (hm:P.follows .mixedOrders=true) (ZN:Xo n ops.toArray ((List.range ops.toArray.size).map fun i=>(i,true))=true)
  (H:Xp P T ops (fun h'=>h'=h) N (ops.map fun o=>(0,true,o)) F h):VS P n T (.region id ops.toArray true) N X R F h:=by
 refine VS.quiet hm ZN ?_
 have key:∀(l:List Oper) (k:Nat) (F:Env),(∀j,l[j]? = ops[k+j]?)→Xp P T ops (fun h'=>h'=h) N (l.map fun o=>(0,true,o)) F h →
   Xp P T ops (fun h'=>h'=h) N (YO ops.toArray ((List.range' k l.length).map fun i=>(i,true))) F h:=by
  intro l
  induction l with
  | nil=>intro k F _ H;exact H
  | cons o l ih=>
   intro k F hl H
   have h0:ops[k]? = some o:=by simpa using (hl 0).symm
   have HU:∀j,l[j]? = ops[k+1+j]?:=fun j=>by have:=hl (j+1);simpa [Nat.add_assoc,Nat.add_comm 1 j] using this
   have e:YO ops.toArray ((List.range' k (o :: l).length).map fun i=>(i,true))=(k,true,o) :: YO ops.toArray ((List.range' (k+1) l.length).map fun i=>(i,true)):=by
    simp[YO,List.range'_succ,h0]
   rw[e]
   obtain⟨d,op,ty,pos,YN,g⟩:=o
   cases g with
   | none=>
    obtain⟨v,hv,H⟩:=H
    exact⟨v,hv,ih (k+1) _ HU H⟩
   | some jb=>
    obtain⟨j,b⟩:=jb
    simp only[List.map_cons,Xp]at H ⊢
    unfold ZZ at *
    split at H
    ·split at H
     ·rename_i SF
      rw[if_pos SF]
      obtain⟨v,hv,H⟩:=H
      exact⟨v,hv,ih (k+1) _ HU H⟩
     ·rename_i SF
      rw[if_neg SF]
      exact ih (k+1) _ HU H
    ·exact ih (k+1) _ HU H
 have:=key ops 0 F (fun j=>by simp) H
 rw[List.range_eq_range']
 exact ZL _ _ _ this
def U3 (v:Value) (A B:Prop):Prop:=match v with|.bool b=>if b=true then A else B|_=>False
def vc (P:Program) (n:Nat) (T:World):Code→(Env→Hp→Prop)→(Nat→Env→Hp→Prop)→(Env→Hp→Prop)→Env→Hp→Prop
 | .skip,N,_,_,F,h=>N F h
 | .ret,_,_,R,F,h=>R F h
 | .exit j,_,X,_,F,h=>X j F h
 | .seq a b,N,X,R,F,h=>vc P n T a (fun F h=>vc P n T b N X R F h) X R F h
 | .cond c a b,N,X,R,F,h=>U3 (ev F c) (vc P n T a N X R F h) (vc P n T b N X R F h)
 | .block j c,N,X,R,F,h=>vc P n T c N (fun i F h=>if i=j then N F h else X i F h) R F h
 | .region _ ops false,N,_,_,F,h=>Jf P T ops.toList N ops.toList F h
 | c,N,X,R,F,h=>VS P n T c N X R F h
def codeOk (n:Nat):Code→Bool
 | .seq a b=>codeOk n a&&codeOk n b
 | .cond _ a b=>codeOk n a&&codeOk n b
 | .block _ c=>codeOk n c
 | .region _ ops false=>XC n ops
 | _=>true
theorem ZG {n:Nat}:∀(c:Code) (N:Env→Hp→Prop) (X:Nat→Env→Hp→Prop) (R:Env→Hp→Prop) (F:Env) (h:Hp),codeOk n c=true→vc P n T c N X R F h→VS P n T c N X R F h:=by
 intro c
 induction c with
 | skip=>intro N X R F h _ H;exact VS.skip H
 | ret=>intro N X R F h _ H;exact VS.ret H
 | exit j=>intro N X R F h _ H;exact VS.exit H
 | seq a b Lp Lq=>
  intro N X R F h ZN H
  simp only[codeOk,Bool.and_eq_true]at ZN
  exact VS.seq (VS.mono (Lp _ _ _ _ _ ZN.1 H) (fun F h q=>Lq _ _ _ _ _ ZN.2 q) (fun _ _ _ q=>q) (fun _ _ q=>q))
 | cond c a b Lp Lq=>
  intro N X R F h ZN H
  simp only[codeOk,Bool.and_eq_true]at ZN
  simp only[vc,U3]at H
  split at H
  ·rename_i t ht
   refine VS.cond ht (fun hb=>?_) (fun hb=>?_)
   ·rw[if_pos hb]at H;exact Lp _ _ _ _ _ ZN.1 H
   ·rw[if_neg (by simp[hb])]at H;exact Lq _ _ _ _ _ ZN.2 H
  ·exact H.elim
 | block j c ih=>intro N X R F h ZN H;exact VS.block (ih _ _ _ _ _ ZN H)
 | region id ops draw=>
  intro N X R F h ZN H
  cases draw with
  | true=>exact H
  | false=>exact VS.region ZN (by simpa using Z8 _ _ _ H)
 | _=>intro N X R F h _ H;exact H
theorem Zf.NJ {f:FuncId} {fn:Func} {c:Code} {l:List ResultVar} {args:List Value} {Q:Value→Hp→Prop} (hf:P.funcs[f]? = some fn) (hb:fn.body=some c)
  (hl:fn.results=l.toArray) (hn:Nat.ble args.length fn.ntmps=true) (ZN:codeOk fn.ntmps c=true)
  (H:vc P fn.ntmps T c (fun F h'=>Y0 P l F Q h') (fun _ _ _=>False) (fun F h'=>Y0 P l F Q h') (JE args 0) h) :
  Zf P T f args.toArray h Q:=
 Zf.Sy hf hb hl (by simpa using hn) (by simpa using ZG _ _ _ _ _ _ ZN H)
end
section
variable {P:Program} {T:World} {K:Value→Hp→Prop} {F:Env} {h:Hp} {ty:TypeId}
def NK (P:Program) (T:World) (ops:List Oper) (N:Env→Hp→Prop) (l:List Oper) (F:Env) (d:Option Tmp):Value→Hp→Prop:=fun v h=>Jf P T ops N l (Zl F d v) h
theorem PD {ops l:List Oper} {N:Env→Hp→Prop} {d:Option Tmp} {v:Value}:NK P T ops N l F d v h=Jf P T ops N l (Zl F d v) h:=rfl
theorem PE {ops:List Oper} {N:Env→Hp→Prop}:Jf P T ops N [] F h=N F h:=rfl
theorem Tm {ops l:List Oper} {N:Env→Hp→Prop} {d:Option Tmp} {op:Op} {pos:String} {YN:Array Edge} :
  Jf P T ops N (⟨d,op,ty,pos,YN,none⟩ :: l) F h=Je P T op ty (NK P T ops N l F d) F h:=rfl
def Tn (P:Program) (T:World) (ops:List Oper) (N:Env→Hp→Prop) (l:List Oper) (F:Env) (d:Option Tmp) (op:Op) (ty:TypeId) (v:Value) (b:Bool) (h:Hp):Prop:=
 ZZ v b (Je P T op ty (NK P T ops N l F d) F h) (Jf P T ops N l (Zl F d undef) h)
theorem To {ops l:List Oper} {N:Env→Hp→Prop} {d:Option Tmp} {op:Op} {pos:String} {YN:Array Edge} {j:Nat} {b:Bool} :
  Jf P T ops N (⟨d,op,ty,pos,YN,some (j,b)⟩ :: l) F h=Tn P T ops N l F d op ty (Y1 ops F j) b h:=rfl
theorem Vc {ops l:List Oper} {N:Env→Hp→Prop} {d:Option Tmp} {op:Op} {b c:Bool} :
  Tn P T ops N l F d op ty (.bool c) b h=if c=b then Je P T op ty (NK P T ops N l F d) F h else Jf P T ops N l (Zl F d undef) h:=rfl
def KY (P:Program) (n:Nat) (T:World) (b:Code) (N:Env→Hp→Prop) (X:Nat→Env→Hp→Prop) (R:Env→Hp→Prop):Env→Hp→Prop:=fun F h=>vc P n T b N X R F h
def Lr (j:Nat) (N:Env→Hp→Prop) (X:Nat→Env→Hp→Prop):Nat→Env→Hp→Prop:=fun i F h=>if i=j then N F h else X i F h
def Vd:Nat→Env→Hp→Prop:=fun _ _ _=>False
def S9 (P:Program) (l:List ResultVar) (Q:Value→Hp→Prop):Env→Hp→Prop:=fun F h=>Y0 P l F Q h
def MO (P:Program) (n:Nat) (T:World) (v:Value) (a b:Code) (N:Env→Hp→Prop) (X:Nat→Env→Hp→Prop) (R:Env→Hp→Prop) (F:Env) (h:Hp):Prop:=
 U3 v (vc P n T a N X R F h) (vc P n T b N X R F h)
section
variable {n:Nat} {N:Env→Hp→Prop} {X:Nat→Env→Hp→Prop} {R:Env→Hp→Prop}
theorem PF {b:Code}:KY P n T b N X R F h=vc P n T b N X R F h:=rfl
theorem PG {i j:Nat}:Lr j N X i F h=if i=j then N F h else X i F h:=rfl
theorem Ra {i:Nat}:Vd i F h=False:=rfl
theorem PH {l:List ResultVar} {Q:Value→Hp→Prop}:S9 P l Q F h=Y0 P l F Q h:=rfl
theorem NL:vc P n T .skip N X R F h=N F h:=rfl
theorem Ls:vc P n T .ret N X R F h=R F h:=rfl
theorem NM {j:Nat}:vc P n T (.exit j) N X R F h=X j F h:=rfl
theorem Lt {a b:Code}:vc P n T (.seq a b) N X R F h=vc P n T a (KY P n T b N X R) X R F h:=rfl
theorem NN {c:Operand} {a b:Code}:vc P n T (.cond c a b) N X R F h=MO P n T (ev F c) a b N X R F h:=rfl
theorem PI {j:Nat} {c:Code}:vc P n T (.block j c) N X R F h=vc P n T c N (Lr j N X) R F h:=rfl
theorem Rb {id:Nat} {l:List Oper}:vc P n T (.region id l.toArray false) N X R F h=Jf P T l N l F h:=rfl
theorem NO {id:Nat} {l:Array Oper}:vc P n T (.region id l true) N X R F h=VS P n T (.region id l true) N X R F h:=rfl
theorem NP {c:Code}:vc P n T (.loop c) N X R F h=VS P n T (.loop c) N X R F h:=rfl
theorem Tp {a b:Code} {t:Bool}:MO P n T (.bool t) a b N X R F h=if t=true then vc P n T a N X R F h else vc P n T b N X R F h:=rfl
end
theorem Zf.PJ {f:FuncId} {fn:Func} {c:Code} {l:List ResultVar} {args:List Value} {Q:Value→Hp→Prop} (hf:P.funcs[f]? = some fn) (hb:fn.body=some c)
  (hl:fn.results=l.toArray) (hn:Nat.ble args.length fn.ntmps=true) (ZN:codeOk fn.ntmps c=true)
  (H:vc P fn.ntmps T c (S9 P l Q) Vd (S9 P l Q) (JE args 0) h):Zf P T f args.toArray h Q:=Zf.NJ hf hb hl hn ZN H
theorem Zf.WT {f:FuncId} {fn:Func} {c:Code} {l:List ResultVar} (args:List Value) {Q:Value→Hp→Prop} (hf:P.funcs[f]? = some fn) (H:vc P fn.ntmps T c (S9 P l Q) Vd (S9 P l Q) (JE args 0) h)
  (hb:fn.body=some c:=by rfl) (hl:fn.results=l.toArray:=by rfl) (hn:Nat.ble args.length fn.ntmps=true:=by rfl) (ZN:codeOk fn.ntmps c=true:=by rfl):Zf P T f args.toArray h Q:=Zf.PJ hf hb hl hn ZN H
def YS (I:Env→Hp→Prop) (μ:Env→Hp→Nat) (m:Nat):Env→Hp→Prop:=fun F h=>I F h∧μ F h<m
theorem VS.XF {n:Nat} {N:Env→Hp→Prop} {X:Nat→Env→Hp→Prop} {R:Env→Hp→Prop} {c:Code} (I:Env→Hp→Prop) (μ:Env→Hp→Nat) (ZN:codeOk n c=true) (h0:I F h)
  (round:∀F h,I F h→vc P n T c (YS I μ (μ F h)) X R F h):VS P n T (.loop c) N X R F h:=
 VS.loop I μ h0 fun F h hI=>ZG _ _ _ _ _ _ ZN (round F h hI)
theorem Zf.use {f:FuncId} {args:Array Value} {Q:Value→Hp→Prop} (c:Zf P T f args h Q) (H:∀v h',Q v h'→K v h'):Zf P T f args h K:=c.mono H
theorem Zf.pure {f:FuncId} {args:Array Value} {r:Value} (c:Zf P T f args h fun v h'=>v=r∧h'=h) (H:K r h):Zf P T f args h K:=
 c.mono fun _ _ ⟨e1,e2⟩=>by subst e1;subst e2;exact H
def ap (B:Value→Prop) (v:Value):Prop:=B v
def Jh (v:Value) (h:Hp):Value→Hp→Prop:=fun v' h'=>v'=v∧h'=h
def Qg (P:Program) (T:World) (ops:List Oper) (N:Env→Hp→Prop):List Oper→Env→Hp→Prop
 | [],F,h=>N F h
 | ⟨d,op,ty,_,_,none⟩ :: l,F,h=>∃v,Je P T op ty (Jh v h) F h∧Qg P T ops N l (Zl F d v) h
 | ⟨d,op,ty,_,_,some (j,b)⟩ :: l,F,h=>ZZ (Y1 ops F j) b (∃v,Je P T op ty (Jh v h) F h∧Qg P T ops N l (Zl F d v) h) (Qg P T ops N l (Zl F d undef) h)
theorem Yg {ops:List Oper} {N:Env→Hp→Prop}:∀(l:List Oper) (F:Env),Qg P T ops N l F h→Xp P T ops (fun h'=>h'=h) N (l.map fun o=>(0,true,o)) F h
 | [],_,H=>H
 | ⟨d,op,ty,pos,YN,none⟩ :: l,F,H=>by
  obtain⟨v,hv,H⟩:=H
  exact⟨v,fun h' e=>by subst e;exact hv,Yg l _ H⟩
 | ⟨d,op,ty,pos,YN,some (j,b)⟩ :: l,F,H=>by
  simp only[Qg,ZZ]at H
  simp only[List.map_cons,Xp,ZZ]
  split at H
  ·split at H
   ·rename_i SF
    rw[if_pos SF]
    obtain⟨v,hv,H⟩:=H
    exact⟨v,fun h' e=>by subst e;exact hv,Yg l _ H⟩
   ·rename_i SF
    rw[if_neg SF]
    exact Yg l _ H
  ·exact Yg l _ H
theorem VS.q {n:Nat} {N:Env→Hp→Prop} {X:Nat→Env→Hp→Prop} {R:Env→Hp→Prop} {id:Nat} {ops:List Oper} (hm:P.follows .mixedOrders=true) (ZN:Xo n ops.toArray ((List.range ops.toArray.size).map fun i=>(i,true))=true)
  (H:Qg P T ops N ops F h):VS P n T (.region id ops.toArray true) N X R F h:=VS.Lo hm ZN (Yg _ _ H)
def qK (P:Program) (T:World) (ops:List Oper) (N:Env→Hp→Prop) (l:List Oper) (F:Env) (d:Option Tmp) (h:Hp):Value→Prop:=fun v=>Qg P T ops N l (Zl F d v) h
def Wo (P:Program) (T:World) (op:Op) (ty:TypeId) (B:Value→Prop) (F:Env) (h:Hp):Prop:=∃v,Je P T op ty (Jh v h) F h∧ap B v
def PK (P:Program) (T:World) (ops:List Oper) (N:Env→Hp→Prop) (l:List Oper) (F:Env) (d:Option Tmp) (op:Op) (ty:TypeId) (v:Value) (b:Bool) (h:Hp):Prop:=
 ZZ v b (Wo P T op ty (qK P T ops N l F d h) F h) (Qg P T ops N l (Zl F d undef) h)
theorem PL {ops:List Oper} {N:Env→Hp→Prop}:Qg P T ops N [] F h=N F h:=rfl
theorem Tq {ops l:List Oper} {N:Env→Hp→Prop} {d:Option Tmp} {op:Op} {pos:String} {YN:Array Edge} :
  Qg P T ops N (⟨d,op,ty,pos,YN,none⟩ :: l) F h=Wo P T op ty (qK P T ops N l F d h) F h:=rfl
theorem Tt {ops l:List Oper} {N:Env→Hp→Prop} {d:Option Tmp} {op:Op} {pos:String} {YN:Array Edge} {j:Nat} {b:Bool} :
  Qg P T ops N (⟨d,op,ty,pos,YN,some (j,b)⟩ :: l) F h=PK P T ops N l F d op ty (Y1 ops F j) b h:=rfl
theorem Ve {ops l:List Oper} {N:Env→Hp→Prop} {d:Option Tmp} {op:Op} {b c:Bool} :
  PK P T ops N l F d op ty (.bool c) b h=if c=b then Wo P T op ty (qK P T ops N l F d h) F h else Qg P T ops N l (Zl F d undef) h:=rfl
theorem Lu {ops l:List Oper} {N:Env→Hp→Prop} {d:Option Tmp} {v:Value}:qK P T ops N l F d h v=Qg P T ops N l (Zl F d v) h:=rfl
def qR (x:Option Value) (B:Value→Prop):Prop:=match x with|some v=>ap B v|none=>False
theorem NQ {v:Value} {B:Value→Prop}:qR (some v) B=B v:=rfl
theorem Pl {v:Value} {B:Value→Prop}:(∃u,Jh u h v h∧ap B u)=B v:=by
 apply propext;constructor
 ·rintro⟨u,⟨e,_⟩,H⟩;subst e;exact H
 ·intro H;exact⟨v,⟨rfl,rfl⟩,H⟩
section
variable {B:Value→Prop}
theorem PM {x:Operand}:Wo P T (.move x) ty B F h=B (ev F x):=Pl
theorem Tu {x:Operand}:Wo P T (.assign x) ty B F h=B (ev F x):=Pl
def PN (c a b:Value) (B:Value→Prop):Prop:=match c with|.bool t=>B (if t then a else b)|_=>False
theorem Tv {t:Bool} {a b:Value}:PN (.bool t) a b B=B (if t=true then a else b):=rfl
theorem PO {c a b:Operand}:Wo P T (.pick c a b) ty B F h=PN (ev F c) (ev F a) (ev F b) B:=by
 show (∃u,UZ _ _ _ (Jh u h) h∧ap B u)=_
 unfold UZ PN
 cases ev F c<;>first|exact Pl|simp
def SG (s:Option Bool) (n:Option Nat) (p:Value) (B:Value→Prop) (h:Hp):Prop:=
 match p with
 | .pointer (some a)=>match s,n with
  | some false,_=>qR (hc h a) B
  | some true,some n=>qR ((rd h a n).map fun l=>.agg l.toArray) B
  | _,_=>False
 | _=>False
theorem Rc {n:Option Nat} {a:Addr}:SG (some false) n (.pointer (some a)) B h=qR (hc h a) B:=rfl
theorem Tw {n:Nat} {a:Addr}:SG (some true) (some n) (.pointer (some a)) B h=qR ((rd h a n).map fun l=>.agg l.toArray) B:=rfl
theorem PQ {t:TypeId} {x:Operand}:Wo P T (.load t x) ty B F h=SG (ta P t) (tn P t) (ev F x) B h:=by
 show (∃u,JL _ _ _ (Jh u h) h∧ap B u)=_
 unfold JL SG
 cases ev F x with
 | pointer a=>
  cases a with
  | none=>simp
  | some a=>
   simp only
   rcases ta P t with _|b
   ·simp
   ·cases b
    ·simp only[QE,qR]
     cases hc h a with
     | none=>simp
     | some v=>exact Pl
    ·rcases tn P t with _|n
     ·simp
     ·simp only[QZ,qR]
      cases rd h a n with
      | none=>simp
      | some v=>exact Pl
 | _=>simp
def Tx (f:Option Nat) (p:Value) (B:Value→Prop):Prop:=match f,p with|some o,.pointer (some a)=>B (.pointer (some (a.add o)))|_,_=>False
theorem Vf {o b f:Nat}:Tx (some o) (.pointer (some ⟨b,f,none⟩)) B=B (.pointer (some ⟨b,f+o,none⟩)):=by
 show B (.pointer (some (Addr.add _ _)))=_;rw[addr_add]
theorem Rd {t:TypeId} {x:Operand} {i:Nat}:Wo P T (.fieldAddr t x i) ty B F h=Tx (tf P t i) (ev F x) B:=by
 show (∃u,Js _ _ (Jh u h) h∧ap B u)=_
 unfold Js Tx
 rcases tf P t i with _|o
 ·simp
 ·cases ev F x with
  | pointer a=>cases a with
   | none=>simp
   | some a=>exact Pl
  | _=>simp
def HV (arr:Option (Nat × TypeId)) (sl:Option TypeId) (n:TypeId→Option Nat) (p i:Value) (B:Value→Prop):Prop:=
 match i with
 | .int _ i=>(match arr,sl,p with
  | some (len,e),none,.pointer (some a)=>(match n e with
   | some n=>if 0≤i∧i<(len:Int) then B (.pointer (some (a.add (i.toNat*n)))) else False
   | none=>False)
  | none,some e,.slice (some a) len _=>(match n e with
   | some n=>if 0≤i∧i<(len:Int) then B (.pointer (some (a.add (i.toNat*n)))) else False
   | none=>False)
  | _,_,_=>False)
 | _=>False
def NR (m:Option Nat) (len:Nat) (a:Addr) (i:Int) (B:Value→Prop):Prop:=
 match m with|some m=>if 0≤i∧i<(len:Int) then B (.pointer (some (a.add (i.toNat*m)))) else False|none=>False
theorem NS {len:Nat} {e:TypeId} {n:TypeId→Option Nat} {a:Addr} {k:IntKind} {i:Int}:HV (some (len,e)) none n (.pointer (some a)) (.int k i) B=NR (n e) len a i B:=rfl
theorem Re {len cap:Nat} {e:TypeId} {n:TypeId→Option Nat} {a:Addr} {k:IntKind} {i:Int}:HV none (some e) n (.slice (some a) len cap) (.int k i) B=NR (n e) len a i B:=rfl
theorem Rf {m len b f:Nat} {i:Int}:NR (some m) len ⟨b,f,none⟩ i B=if 0≤i∧i<(len:Int) then B (.pointer (some ⟨b,f+i.toNat*m,none⟩)) else False:=by
 simp only[NR,addr_add]
theorem Jv {c:Prop} [Decidable c] {A:Value→Prop}:(∃u,(if c then A u else False)∧ap B u)=if c then (∃u,A u∧ap B u) else False:=by
 split<;>simp
theorem Lv {t:TypeId} {x i:Operand}:Wo P T (.indexAddr t x i) ty B F h=HV (Yp P t) (XD P t) (tn P) (ev F x) (ev F i) B:=by
 show (∃u,MN _ _ _ _ _ (Jh u h) h∧ap B u)=_
 unfold MN HV
 cases ev F i with
 | int k i=>
  simp only
  rcases Yp P t with _|⟨len,e⟩
  ·rcases XD P t with _|e
   ·simp
   ·cases ev F x with
    | slice a len cap=>
     cases a with
     | none=>simp
     | some a=>
      simp only
      rcases tn P e with _|n
      ·simp
      ·simp only;rw[Jv,Pl]
    | _=>simp
  ·rcases XD P t with _|e'
   ·cases ev F x with
    | pointer a=>
     cases a with
     | none=>simp
     | some a=>
      simp only
      rcases tn P e with _|n
      ·simp
      ·simp only;rw[Jv,Pl]
    | _=>simp
   ·simp
 | _=>simp
def JQ (v:Value) (i:Nat) (B:Value→Prop):Prop:=match v with|.tuple vs=>qR (vs[i]?) B|_=>False
theorem Q2 {l:List Value} {i:Nat}:JQ (.tuple l.toArray) i B=qR (nth l i) B:=by simp[JQ,Yx]
theorem Vg {x:Operand} {i:Nat}:Wo P T (.extract x i) ty B F h=JQ (ev F x) i B:=by
 show (∃u,YE _ _ (Jh u h) h∧ap B u)=_
 unfold YE JQ
 cases ev F x with
 | tuple vs=>
  simp only[QE,qR]
  cases vs[i]? with
  | none=>simp
  | some v=>exact Pl
 | _=>simp
def Lw (v:Value) (B:Value→Prop):Prop:=match v with|.pointer (some a)=>B (.pointer (some a))|.func (.func f) x y=>B (.func (.func f) x y)|_=>False
theorem Wp {a:Addr}:Lw (.pointer (some a)) B=B (.pointer (some a)):=rfl
theorem NT {x:Operand}:Wo P T (.nilCheck x) ty B F h=Lw (ev F x) B:=by
 show (∃u,Tc _ (Jh u h) h∧ap B u)=_
 unfold Tc Lw
 cases ev F x with
 | pointer a=>cases a with
  | none=>simp
  | some a=>exact Pl
 | func f a b=>cases f with
  | func f=>exact Pl
  | _=>simp
 | _=>simp
theorem NU {op:BinOp} {t t':TypeId} {x y:Operand}:Wo P T (.binOp op t x y t') ty B F h = ∃u,ZI P op t x y (ev F x) (ev F y) (Jh u h) h∧ap B u:=rfl
theorem Lx {op:UnOp} {t:TypeId} {x:Operand}:Wo P T (.unOp op t x) ty B F h = ∃u,Kx P op (ev F x) (Jh u h) h∧ap B u:=rfl
theorem PR {s d:TypeId} {x:Operand}:Wo P T (.convert s d x) ty B F h = ∃u,XQ P s d (ev F x) (Jh u h) h∧ap B u:=rfl
theorem Ly {b:Builtin} {args:Array Operand} {ts:Array TypeId}:Wo P T (.call ⟨.builtin b,args,ts⟩) ty B F h =
  ∃u,UE P T b ts ty (args.map fun|.const _=>true|_=>false) (Pk F args.toList) (Jh u h) h∧ap B u:=rfl
end
theorem Lz {t:Nat}:ev F (.tmp t)=F t:=rfl
theorem PS {v:Value}:ev F (.const v)=v:=rfl
theorem Rg {g:Nat}:ev F (.global g)=.pointer (some ⟨g,0,none⟩):=rfl
theorem NV {g:Nat}:ev F (.func g)=.func (.func g) #[] #[]:=rfl
theorem YX {d:Nat} {v:Value} {t:Nat}:Zl F (some d) v t=if t=d then v else F t:=rfl
theorem Rh {v:Value}:Zl F none v=F:=rfl
theorem NW {d:Nat} {v:Value} {t:Nat}:Jo F d v t=if t=d then v else F t:=rfl
theorem TA {t:Bool} {a b:Value}:UZ (.bool t) a b K h=K (if t=true then a else b) h:=rfl
theorem Ri {l:List Value} {t:TypeId}:Py (some l) t K h=K (.pointer (some ⟨h.size,0,none⟩)) (h.push (.cells l.toArray t)):=rfl
theorem Rj {v:Value}:QE (some v) K h=K v h:=rfl
theorem Rk {l:List Value}:QZ (some l) K h=K (.agg l.toArray) h:=rfl
theorem U4 {n:Option Nat} {a:Addr}:JL (some false) n (.pointer (some a)) K h=QE (hc h a) K h:=rfl
theorem Q3 {n:Nat} {a:Addr}:JL (some true) (some n) (.pointer (some a)) K h=QZ (rd h a n) K h:=rfl
theorem PT {h':Hp}:Sz (some h') K=K undef h':=rfl
theorem TC {n:Nat} {a:Addr} {k:IntKind} {i:Int}:YP (some n) (.pointer (some a)) (.int k i) K h=if n=1 then Sz (XN h a (.int k i)) K else False:=rfl
theorem Vh {n:Nat} {a:Addr} {b:Bool}:YP (some n) (.pointer (some a)) (.bool b) K h=if n=1 then Sz (XN h a (.bool b)) K else False:=rfl
theorem Wq {n:Nat} {a:Addr} {p:Option Addr} {l c:Nat}:YP (some n) (.pointer (some a)) (.slice p l c) K h=if n=1 then Sz (XN h a (.slice p l c)) K else False:=rfl
theorem UJ {n:Nat} {a:Addr} {s:ByteArray}:YP (some n) (.pointer (some a)) (.string s) K h=if n=1 then Sz (XN h a (.string s)) K else False:=rfl
theorem Q4 {n:Nat} {a:Addr} {p:Option Addr}:YP (some n) (.pointer (some a)) (.pointer p) K h=if n=1 then Sz (XN h a (.pointer p)) K else False:=rfl
theorem TD {n:Nat} {a:Addr} {p:Option Nat}:YP (some n) (.pointer (some a)) (.map p) K h=if n=1 then Sz (XN h a (.map p)) K else False:=rfl
theorem Vi {n:Nat} {a:Addr} {f:Fn} {x y:Array Value}:YP (some n) (.pointer (some a)) (.func f x y) K h=if n=1 then Sz (XN h a (.func f x y)) K else False:=rfl
theorem Q5 {n:Nat} {a:Addr}:YP (some n) (.pointer (some a)) .nilFunc K h=if n=1 then Sz (XN h a .nilFunc) K else False:=rfl
theorem TE {n:Nat} {a:Addr} {l:List Value}:YP (some n) (.pointer (some a)) (.agg l.toArray) K h=if n=l.length then Sz (wr h a l) K else False:=rfl
theorem Vj {o b f:Nat}:Js (some o) (.pointer (some ⟨b,f,none⟩)) K h=K (.pointer (some ⟨b,f+o,none⟩)) h:=by
 show K (.pointer (some (Addr.add _ _))) h=_;rw[addr_add]
def NX (m:Option Nat) (len:Nat) (a:Addr) (i:Int) (K:Value→Hp→Prop) (h:Hp):Prop:=
 match m with|some m=>if 0≤i∧i<(len:Int) then K (.pointer (some (a.add (i.toNat*m)))) h else False|none=>False
theorem NY {len:Nat} {e:TypeId} {n:TypeId→Option Nat} {a:Addr} {k:IntKind} {i:Int} :
  MN (some (len,e)) none n (.pointer (some a)) (.int k i) K h=NX (n e) len a i K h:=rfl
theorem Rm {len cap:Nat} {e:TypeId} {n:TypeId→Option Nat} {a:Addr} {k:IntKind} {i:Int} :
  MN none (some e) n (.slice (some a) len cap) (.int k i) K h=NX (n e) len a i K h:=rfl
theorem Rn {m len b f:Nat} {i:Int}:NX (some m) len ⟨b,f,none⟩ i K h=if 0≤i∧i<(len:Int) then K (.pointer (some ⟨b,f+i.toNat*m,none⟩)) h else False:=by
 simp only[NX,addr_add]
theorem Q6 {l:List Value} {i:Nat}:YE (.tuple l.toArray) i K h=QE (nth l i) K h:=by simp[YE,Yx]
theorem Wr {a:Addr}:Tc (.pointer (some a)) K h=K (.pointer (some a)) h:=rfl
theorem Ro {f:FuncId} {x y:Array Value}:Tc (.func (.func f) x y) K h=K (.func (.func f) x y) h:=rfl
theorem TF {f:FuncId} {l:List Value} (hg:goes P f=true):Qt P T (.func (.func f) #[] #[]) l K h=Zf P T f l.toArray h K:=by
 simp only[Qt,hg,↓reduceIte]
 simp
theorem PU {t:TypeId} {x y:Operand} {k:IntKind} {a b:Int}:ZI P .add t x y (.int k a) (.int k b) K h=K (.int k (k.wrap (a+b))) h:=by
 simp[ZI,binOp,Op.intArith,Zi,eqGuard]
theorem PV {t:TypeId} {x y:Operand} {k:IntKind} {a b:Int}:ZI P .sub t x y (.int k a) (.int k b) K h=K (.int k (k.wrap (a-b))) h:=by
 simp[ZI,binOp,Op.intArith,Zi,eqGuard]
theorem PW {t:TypeId} {x y:Operand} {k:IntKind} {a b:Int}:ZI P .mul t x y (.int k a) (.int k b) K h=K (.int k (k.wrap (a*b))) h:=by
 simp[ZI,binOp,Op.intArith,Zi,eqGuard]
theorem PX {t:TypeId} {x y:Operand} {k:IntKind} {a b:Int}:ZI P .quo t x y (.int k a) (.int k b) K h=if b=0 then False else K (.int k (k.wrap (a.tdiv b))) h:=by
 simp only[ZI,binOp,Op.intDiv,Za,eqGuard]
 by_cases hb:b=0
 ·subst hb;simp[runtimePanic,goPanic,Za,hw,Zi,program]
 ·simp[hb,Zi]
theorem PY {t:TypeId} {x y:Operand} {k:IntKind} {a b:Int}:ZI P .rem t x y (.int k a) (.int k b) K h=if b=0 then False else K (.int k (a.tmod b)) h:=by
 simp only[ZI,binOp,Op.intDiv,Za,eqGuard]
 by_cases hb:b=0
 ·subst hb;simp[runtimePanic,goPanic,Za,hw,Zi,program]
 ·simp[hb,Zi]
def XG (op:BinOp) (k:IntKind) (a b:Int):Int:=
 let x:=BitVec.ofInt k.bits a
 let y:=BitVec.ofInt k.bits b
 k.wrap (match op with|.and=>x &&& y|.or=>x ||| y|.xor=>x ^^^ y|_=>x &&& ~~~y).toNat
theorem PZ {t:TypeId} {x y:Operand} {k:IntKind} {a b:Int}:ZI P .and t x y (.int k a) (.int k b) K h=K (.int k (XG .and k a b)) h:=by
 simp[ZI,binOp,Op.intBits,Zi,eqGuard,XG]
theorem NZ {t:TypeId} {x y:Operand} {k:IntKind} {a b:Int}:ZI P .or t x y (.int k a) (.int k b) K h=K (.int k (XG .or k a b)) h:=by
 simp[ZI,binOp,Op.intBits,Zi,eqGuard,XG]
theorem P0 {t:TypeId} {x y:Operand} {k:IntKind} {a b:Int}:ZI P .xor t x y (.int k a) (.int k b) K h=K (.int k (XG .xor k a b)) h:=by
 simp[ZI,binOp,Op.intBits,Zi,eqGuard,XG]
theorem Vk {t:TypeId} {x y:Operand} {k:IntKind} {a b:Int}:ZI P .andNot t x y (.int k a) (.int k b) K h=K (.int k (XG .andNot k a b)) h:=by
 simp[ZI,binOp,Op.intBits,Zi,eqGuard,XG]
def P1 (k:IntKind) (a b:Int):Int:=k.wrap (a*2 ^ min b.toNat k.bits)
def P2 (k:IntKind) (a b:Int):Int:=a.fdiv (2 ^ min b.toNat k.bits)
theorem P3 {t:TypeId} {x y:Operand} {k k':IntKind} {a b:Int}:ZI P .shl t x y (.int k a) (.int k' b) K h=if b<0 then False else K (.int k (P1 k a b)) h:=by
 simp only[ZI,binOp,Op.shift,Za,eqGuard]
 by_cases hb:b<0
 ·simp[hb,runtimePanic,goPanic,Za,hw,Zi,program]
 ·simp[hb,Zi,P1]
theorem P4 {t:TypeId} {x y:Operand} {k k':IntKind} {a b:Int}:ZI P .shr t x y (.int k a) (.int k' b) K h=if b<0 then False else K (.int k (P2 k a b)) h:=by
 simp only[ZI,binOp,Op.shift,Za,eqGuard]
 by_cases hb:b<0
 ·simp[hb,runtimePanic,goPanic,Za,hw,Zi,program]
 ·simp[hb,Zi,P2]
theorem P5 {t:TypeId} {x y:Operand} {k:IntKind} {a b:Int}:ZI P .eql t x y (.int k a) (.int k b) K h=K (.bool (decide (a=b))) h:=by
 simp[ZI,binOp,Op.intCmp,Zi,eqGuard];rfl
theorem P6 {t:TypeId} {x y:Operand} {k:IntKind} {a b:Int}:ZI P .neq t x y (.int k a) (.int k b) K h=K (.bool (decide (a≠b))) h:=by
 simp[ZI,binOp,Op.intCmp,Zi,eqGuard]
 have:(a != b) = !decide (a=b):=by rfl
 rw[this]
theorem P7 {t:TypeId} {x y:Operand} {k:IntKind} {a b:Int}:ZI P .lss t x y (.int k a) (.int k b) K h=K (.bool (decide (a<b))) h:=by
 simp[ZI,binOp,Op.intCmp,Zi,eqGuard]
theorem P8 {t:TypeId} {x y:Operand} {k:IntKind} {a b:Int}:ZI P .leq t x y (.int k a) (.int k b) K h=K (.bool (decide (a≤b))) h:=by
 simp[ZI,binOp,Op.intCmp,Zi,eqGuard]
theorem P9 {t:TypeId} {x y:Operand} {k:IntKind} {a b:Int}:ZI P .gtr t x y (.int k a) (.int k b) K h=K (.bool (decide (b<a))) h:=by
 simp[ZI,binOp,Op.intCmp,Zi,eqGuard]
theorem Oa {t:TypeId} {x y:Operand} {k:IntKind} {a b:Int}:ZI P .geq t x y (.int k a) (.int k b) K h=K (.bool (decide (b≤a))) h:=by
 simp[ZI,binOp,Op.intCmp,Zi,eqGuard]
theorem N0 {b:Bool}:Kx P .not (.bool b) K h=K (.bool (!b)) h:=rfl
theorem N1 {k:IntKind} {a:Int}:Kx P .neg (.int k a) K h=K (.int k (k.wrap (0-a))) h:=rfl
theorem N2 {k:IntKind} {a:Int}:Kx P .xor (.int k a) K h=K (.int k (XG .xor k (if k.signed then -1 else k.max) a)) h:=rfl
def Ob (d:Option IntKind) (a:Int) (K:Value→Hp→Prop) (h:Hp):Prop:=match d with|some k=>K (.int k (k.wrap a)) h|none=>False
theorem Vl {k:IntKind} {a:Int}:Ob (some k) a K h=K (.int k (k.wrap a)) h:=rfl
theorem Rp {s d:TypeId} {j:IntKind} {a:Int} (hs:(Tb P s).isSome=true) (hd:(Tb P d).isSome=true):XQ P s d (.int j a) K h=Ob (Tb P d) a K h:=by
 unfold Tb at hd hs
 split at hd
 ·rename_i k1 h1
  split at hs
  ·rename_i k2 h2
   simp only[XQ,convert,Za,Zh h1,Zh h2]
   unfold Tb
   rw[h1]
   rfl
  ·cases hs
 ·cases hd
theorem Rq {t:TypeId} {x y:Operand} {a b:ByteArray}:ZI P .eql t x y (.string a) (.string b) K h=K (.bool (a.toList == b.toList)) h:=by
 simp[ZI,binOp,Op.stringOp,Zi,eqGuard]
theorem Rr {t:TypeId} {x y:Operand} {a b:ByteArray}:ZI P .neq t x y (.string a) (.string b) K h=K (.bool (!(a.toList == b.toList))) h:=by
 simp[ZI,binOp,Op.stringOp,Zi,eqGuard]
theorem Ws {cs:Array Bool} {t:TypeId} {p:Option Addr} {l c:Nat} (ht:(XD P t).isSome=true) :
  UE P T .len #[t] ty cs [.slice p l c] K h=K (.int .i64 l) h:=by
 unfold XD at ht
 split at ht
 ·rename_i e' hu
  simp[UE,builtin,Builtin.len_,Za,Zi,Zh hu,Z9,goInt]
 ·cases ht
theorem Rs {t:TypeId} (h:Jr P t=true):P.underlying t=some .string:=by
 unfold Jr at h;split at h
 ·assumption
 ·cases h
theorem UK {cs:Array Bool} {t:TypeId} {s:ByteArray} (ht:Jr P t=true) :
  UE P T .len #[t] ty cs [.string s] K h=K (.int .i64 s.size) h:=by
 simp[UE,builtin,Builtin.len_,Za,Zi,Zh (Rs ht),Z9,goInt]
theorem N3 {ts:Array TypeId} {cs:Array Bool} {k k':IntKind} {a b:Int}:UE P T .min ts ty cs [.int k a,.int k' b] K h=K (.int k (if b<a then b else a)) h:=by
 simp[UE,builtin,Builtin.min_,Builtin.min2,Zi,Z9]
theorem N4 {ts:Array TypeId} {cs:Array Bool} {k k':IntKind} {a b:Int}:UE P T .max ts ty cs [.int k a,.int k' b] K h=K (.int k (if b>a then b else a)) h:=by
 simp[UE,builtin,Builtin.max_,Builtin.max2,Zi,Z9]
end
section
variable {P:Program} {T:World} {K:Value→Hp→Prop} {F:Env} {h:Hp} {ty:TypeId} {B:Value→Prop}
def Oc (p:Option (Nat × Nat)) (place:Nat→Option (Nat × Nat)) (cs:List Value) (v:Value) (l:List (Nat × Value)):Option (List Value):=
 match p with
 | some (o,s)=>if (cl v).length=s∧o+s≤cs.length then YF place (ZW cs o (cl v)) l else none
 | none=>none
theorem Rt {place:Nat→Option (Nat × Nat)} {cs:List Value}:YF place cs []=some cs:=rfl
theorem TG {place:Nat→Option (Nat × Nat)} {cs:List Value} {i:Nat} {v:Value} {l:List (Nat × Value)}:YF place cs ((i,v) :: l)=Oc (place i) place cs v l:=rfl
theorem Vm {o s:Nat} {place:Nat→Option (Nat × Nat)} {cs:List Value} {v:Value} {l:List (Nat × Value)} :
  Oc (some (o,s)) place cs v l=if (cl v).length=s∧o+s≤cs.length then YF place (ZW cs o (cl v)) l else none:=rfl
theorem Ru {n i:Nat}:JM n i=some (i*n,n):=rfl
theorem UL {z:List Value} {pl:List (Nat × Nat)} {n:TypeId→Option Nat} {parts:List (Nat × Value)}:Jt (some z) (some pl) none n parts K h=QZ (YF (nth pl) z parts) K h:=rfl
theorem TH {z:List Value} {m e:Nat} {n:TypeId→Option Nat} {parts:List (Nat × Value)}:Jt (some z) none (some (m,e)) n parts K h=QK (n e) z parts K h:=rfl
theorem Wt {z:List Value} {n:Nat} {parts:List (Nat × Value)}:QK (some n) z parts K h=QZ (YF (JM n) z parts) K h:=rfl
theorem TI {e:TypeId} {len:Nat} {l:List Value}:SA e len (some l) K h=K (.slice (some ⟨h.size,0,none⟩) len len) (h.push (.cells l.toArray e)):=rfl
theorem Q7 {e:TypeId} {n len:Nat} {z:List Value} {parts:List (Nat × Value)}:X4 e (some n) (some z) len parts K h=if z.length=n∧len*n≤16777216 then SA e len (QL n len z parts) K h else False:=rfl
theorem UM {e:TypeId} {n:TypeId→Option Nat} {z:TypeId→Option (List Value)} {len:Nat} {parts:List (Nat × Value)}:JN (some e) n z len parts K h=X4 e (n e) (z e) len parts K h:=rfl
theorem TJ {n o:Nat} {cs:List Value}:Qu (some true) (some n) cs o K h=K (.agg ((cs.drop o).take n).toArray) h:=rfl
theorem Vn {n:Option Nat} {o:Nat} {cs:List Value}:Qu (some false) n cs o K h=QE (nth cs o) K h:=rfl
theorem Rv {o t:Nat} {a:TypeId→Option Bool} {n:TypeId→Option Nat} {cs:List Value}:Pz (some (o,t)) a n (.agg cs.toArray) K h=Qu (a t) (n t) cs o K h:=rfl
theorem Od {len e:Nat} {a:TypeId→Option Bool} {n:TypeId→Option Nat} {cs:List Value} {k:IntKind} {i:Int}:Tf (some (len,e)) false a n (.agg cs.toArray) (.int k i) K h=SB (n e) (a e) len cs i K h:=rfl
theorem TK {m len:Nat} {a:Option Bool} {cs:List Value} {i:Int}:SB (some m) a len cs i K h=if 0≤i∧i<(len:Int) then Qu a (some m) cs (i.toNat*m) K h else False:=rfl
theorem Oe {a:TypeId→Option Bool} {n:TypeId→Option Nat} {s:ByteArray} {k:IntKind} {i:Int}:Tf none true a n (.string s) (.int k i) K h=if 0≤i∧i<(s.size:Int) then K (.int .u8 ((s.data.toList.getD i.toNat 0).toNat:Nat)) h else False:=rfl
theorem N5 {d y:Nat}:sb none d y=some d:=rfl
theorem LA {k:IntKind} {i:Int} {d y:Nat}:sb (some (.int k i)) d y=if 0≤i∧i≤(y:Int) then some i.toNat else none:=rfl
def Q8 (a:Option Addr) (n cap b:Nat) (l:Option Nat) (K:Value→Hp→Prop) (h:Hp):Prop:=
 match l with|some l=>K (.slice (if cap=l then a else a.map (·.add (l*n))) (b-l) (cap-l)) h|none=>False
def Of (n:Nat) (a:Option Addr) (cap:Nat) (lo:Option Value) (b:Option Nat) (K:Value→Hp→Prop) (h:Hp):Prop:=
 match b with|some b=>Q8 a n cap b (sb lo 0 b) K h|none=>False
theorem TL {n:Nat} {a:Option Addr} {len cap:Nat} {lo hi:Option Value}:XE (some n) a len cap lo hi K h=Of n a cap lo (sb hi len cap) K h:=by
 unfold XE Of Q8
 cases sb hi len cap<;>rfl
theorem TM {n b:Nat} {a:Option Addr} {cap:Nat} {lo:Option Value}:Of n a cap lo (some b) K h=Q8 a n cap b (sb lo 0 b) K h:=rfl
theorem TN {n b l k o:Nat} {cap:Nat}:Q8 (some ⟨k,o,none⟩) n cap b (some l) K h=K (.slice (if cap=l then some ⟨k,o,none⟩ else some ⟨k,o+l*n,none⟩) (b-l) (cap-l)) h:=by
 simp only[Q8,Option.map_some,addr_add]
theorem TO {n b l:Nat} {cap:Nat}:Q8 none n cap b (some l) K h=K (.slice none (b-l) (cap-l)) h:=by
 simp[Q8]
theorem TP {e:Nat} {str:Bool} {n:TypeId→Option Nat} {a:Option Addr} {len cap:Nat} {lo hi:Option Value}:UF none (some e) str n (.slice a len cap) lo hi none K h=XE (n e) a len cap lo hi K h:=rfl
def Og (n:Option Nat) (a:Option Addr) (len:Nat) (lo:Option Value) (hv:Value) (m:Option Nat) (K:Value→Hp→Prop) (h:Hp):Prop:=match m with|some m=>XE n a len m lo (some hv) K h|none=>False
theorem TQ {n:Option Nat} {a:Option Addr} {len m:Nat} {lo:Option Value} {hv:Value}:Og n a len lo hv (some m) K h=XE n a len m lo (some hv) K h:=rfl
theorem Oh {e:Nat} {str:Bool} {n:TypeId→Option Nat} {a:Option Addr} {len cap:Nat} {lo:Option Value} {hv mv:Value}:UF none (some e) str n (.slice a len cap) lo (some hv) (some mv) K h=Og (n e) a len lo hv (sb (some mv) 0 cap) K h:=by
 simp only[UF,Og]
 cases sb (some mv) 0 cap<;>rfl
theorem Oi {e len:Nat} {str:Bool} {n:TypeId→Option Nat} {a:Addr} {lo hi:Option Value}:UF (some (len,e)) none str n (.pointer (some a)) lo hi none K h=XE (n e) (some a) len len lo hi K h:=rfl
def XH (s:ByteArray) (lo:Option Value) (b:Option Nat) (K:Value→Hp→Prop) (h:Hp):Prop:=
 match b with
 | some b=>(match sb lo 0 b with|some l=>K (.string (s.extract l b)) h|none=>False)
 | none=>False
theorem Oj {n:TypeId→Option Nat} {s:ByteArray} {lo hi:Option Value}:UF none none true n (.string s) lo hi none K h=XH s lo (sb hi s.size s.size) K h:=rfl
theorem Ok {e:Nat} {n b':TypeId→Option Nat} {z:TypeId→Option (List Value)} {k k':IntKind} {l c:Int}:HO (some e) n b' z (.int k l) (.int k' c) K h=NF e (n e) (b' e) (z e) l c K h:=rfl
theorem Rw {e n Ky:Nat} {z:List Value} {l c:Int}:NF e (some n) (some Ky) (some z) l c K h =
  if z.length=n∧0≤l∧l≤c∧c≤9223372036854775807∧(Ky:Int)*c≤281474976710656 then K (.slice (some ⟨h.size,0,none⟩) l.toNat c.toNat) (h.push (.cells (YT c.toNat z).toArray e)) else False:=rfl
theorem N6 {t:TypeId} {x:Operand} {i:Nat}:Wo P T (.field t x i) ty B F h = ∃u,Pz (HN P t i) (ta P) (tn P) (ev F x) (Jh u h) h∧ap B u:=rfl
theorem N7 {t:TypeId} {x i:Operand}:Wo P T (.index t x i) ty B F h = ∃u,Tf (Yp P t) (Jr P t) (ta P) (tn P) (ev F x) (ev F i) (Jh u h) h∧ap B u:=rfl
theorem N8 {t:TypeId} {x:Operand} {lo hi mx:Option Operand}:Wo P T (.slice t x lo hi mx) ty B F h = ∃u,UF (Yp P t) (XD P t) (Jr P t) (tn P) (ev F x) (SC F lo) (SC F hi) (SC F mx) (Jh u h) h∧ap B u:=rfl
theorem Rx {t:TypeId} {parts:Array (Nat × Operand)}:Wo P T (.build t parts) ty B F h = ∃u,Jt (tz P t) (Lk P t) (Yp P t) (tn P) (Td F parts.toList) (Jh u h) h∧ap B u:=rfl
theorem LB {l:List Value}:cl (.agg l.toArray)=l:=rfl
theorem SH {l:List Value} {t:TypeId} {b o:Nat}:hc (h.push (.cells l.toArray t)) ⟨b,o,none⟩=if b=h.size then nth l o else hc h ⟨b,o,none⟩:=by
 unfold hc
 simp only[Array.getElem?_push]
 by_cases hb:b=h.size
 ·subst hb;simp[Yx]
 ·simp[hb]
theorem N9 {l:List Value} {t:TypeId} {b o n:Nat}:rd (h.push (.cells l.toArray t)) ⟨b,o,none⟩ n=if b=h.size then (if o+n≤l.length then some ((l.drop o).take n) else none) else rd h ⟨b,o,none⟩ n:=by
 unfold rd
 simp only[Array.getElem?_push]
 by_cases hb:b=h.size
 ·subst hb;simp
 ·simp[hb]
def Vo (x:Option Hp) (o:Obj):Option Hp:=match x with|some h=>some (h.push o)|none=>none
theorem TR {o:Obj}:Vo (some h) o=some (h.push o):=rfl
theorem set_push {o o':Obj} {b:Nat} (hb:b<h.size):(h.push o).setIfInBounds b o'=(h.setIfInBounds b o').push o:=by
 apply Array.ext_getElem?
 intro i
 simp only[Array.getElem?_setIfInBounds,Array.getElem?_push,Array.size_push,Array.size_setIfInBounds]
 by_cases h1:b=i
 ·subst h1
  rw[if_pos rfl,if_pos (by omega),if_neg (by omega),if_pos rfl,if_pos hb]
 ·rw[if_neg h1]
  by_cases h2:i=h.size
  ·rw[if_pos h2,if_pos h2]
  ·rw[if_neg h2,if_neg h2,if_neg h1]
theorem XS {o o':Obj}:(h.push o).setIfInBounds h.size o'=h.push o':=by
 apply Array.ext_getElem?
 intro i
 simp only[Array.getElem?_setIfInBounds,Array.getElem?_push,Array.size_push]
 by_cases h1:h.size=i
 ·subst h1;rw[if_pos rfl,if_pos (by omega),if_pos rfl]
 ·rw[if_neg h1,if_neg (fun e=>h1 e.symm),if_neg (fun e=>h1 e.symm)]
theorem Ol {l:List Value} {t:TypeId} {b o:Nat} {v:Value}:XN (h.push (.cells l.toArray t)) ⟨b,o,none⟩ v=if b=h.size then (if o<l.length∧Yb v=true then some (h.push (.cells (l.set o v).toArray t)) else none) else Vo (XN h ⟨b,o,none⟩ v) (.cells l.toArray t):=by
 unfold XN
 simp only[Array.getElem?_push]
 by_cases hb:b=h.size
 ·subst hb
  simp only[↓reduceIte,List.size_toArray,Nat.le_refl,true_and,XS,List.setIfInBounds_toArray]
 ·simp only[if_neg hb]
  cases hx:h[b]? with
  | none=>rfl
  | some ob=>
   have ZH:=(Array.getElem?_eq_some_iff.1 hx).1
   cases ob with
   | cells c e fr=>
    obtain⟨lo,hi⟩:=fr
    simp only
    split
    ·simp only[Vo,set_push ZH]
    ·rfl
   | _=>rfl
theorem Ma {l:List Value} {t:TypeId} {b o:Nat} {vs:List Value}:wr (h.push (.cells l.toArray t)) ⟨b,o,none⟩ vs=if b=h.size then (if o+vs.length≤l.length∧vs.all Yb=true then some (h.push (.cells (ZW l o vs).toArray t)) else none) else Vo (wr h ⟨b,o,none⟩ vs) (.cells l.toArray t):=by
 unfold wr
 simp only[Array.getElem?_push]
 by_cases hb:b=h.size
 ·subst hb
  simp only[↓reduceIte,List.size_toArray,Nat.le_refl,true_and,XS]
 ·simp only[if_neg hb]
  cases hx:h[b]? with
  | none=>rfl
  | some ob=>
   have ZH:=(Array.getElem?_eq_some_iff.1 hx).1
   cases ob with
   | cells c e fr=>
    obtain⟨lo,hi⟩:=fr
    simp only
    split
    ·simp only[Vo,set_push ZH]
    ·rfl
   | _=>rfl
end
def ZF (h:Hp) (b o:Nat) (cs:List Value):Prop:=∀i (hi:i<cs.length),hc h ⟨b,o+i,none⟩=some cs[i]
def Sl (n:Nat) (h:Hp) (v:Value) (m:Nat) (cs:List Value):Prop:=
 ∃p cap,v=.slice p m cap∧cs.length=m*n∧(cs≠[]→∃b o,p=some ⟨b,o,none⟩∧ZF h b o cs)
def Own (B:Nat) (E:TypeId) (n:Nat) (h:Hp) (v:Value) (m:Nat) (cs:List Value):Prop:=
 ((∃p,v=.slice p 0 0)∧m=0∧cs=[]) ∨
 ∃b cap Zy,B≤b∧v=.slice (some ⟨b,0,none⟩) m cap∧h[b]? = some (.cells (cs++Zy).toArray E (0,0))∧cs.length=m*n∧Zy.length=(cap-m)*n∧m≤cap
structure Zj (B:Nat) (h h':Hp):Prop where
 size:h.size≤h'.size
 block:∀b,b<B→h'[b]? = h[b]?
theorem Zj.refl (B:Nat) (h:Hp):Zj B h h:=⟨Nat.le_refl _,fun _ _=>rfl⟩
theorem Zj.trans {B:Nat} {h h' Qc:Hp} (a:Zj B h h') (b:Zj B h' Qc):Zj B h Qc:=
 ⟨Nat.le_trans a.size b.size,fun k hk=>(b.block k hk).trans (a.block k hk)⟩
theorem Zj.mono {B B':Nat} {h h':Hp} (a:Zj B h h') (hB:B'≤B):Zj B' h h':=⟨a.size,fun k hk=>a.block k (Nat.lt_of_lt_of_le hk hB)⟩
theorem Zj.push {B:Nat} {h:Hp} (hB:B≤h.size) (o:Obj):Zj B h (h.push o):=
 ⟨by simp,fun k hk=>by rw[Array.getElem?_push,if_neg (by omega)]⟩
theorem Zj.set {B:Nat} {h:Hp} {b:Nat} (hb:B≤b) (o:Obj):Zj B h (h.setIfInBounds b o):=
 ⟨by simp,fun k hk=>by rw[Array.getElem?_setIfInBounds,if_neg (by omega)]⟩
theorem Zj.hc {B:Nat} {h h':Hp} (a:Zj B h h') {p:Addr} (hp:p.block<B):hc h' p=hc h p:=by unfold V.hc;rw[a.block _ hp]
theorem Zb {h:Hp} {b:Nat} {o:Obj} (hb:h[b]? = some o):b<h.size:=(Array.getElem?_eq_some_iff.1 hb).1
theorem JR {h:Hp} {p:Addr} {v:Value} (hp:hc h p=some v):p.block<h.size:=by
 unfold hc at hp
 cases hb:h[p.block]? with
 | none=>rw[hb]at hp;cases hp
 | some o=>exact Zb hb
theorem Yy {h:Hp} {b:Nat} {c:Array Value} {e:TypeId} {fr:Nat × Nat} (hb:h[b]? = some (.cells c e fr)) (o:Nat):hc h ⟨b,o,none⟩=c[o]?:=by
 unfold hc;simp only[hb];rfl
theorem Zj.ZF {B:Nat} {h h':Hp} (a:Zj B h h') {b o:Nat} {cs:List Value} (hb:b<B) (Xc:ZF h b o cs):ZF h' b o cs:=
 fun i hi=>by rw[a.hc (by exact hb)];exact Xc i hi
theorem Sl.Yu {n:Nat} {h h':Hp} {v:Value} {m:Nat} {cs:List Value} (s:Sl n h v m cs) (a:Zj h.size h h'):Sl n h' v m cs:=by
 obtain⟨p,cap,hv,hl,hc⟩:=s
 refine⟨p,cap,hv,hl,fun ZC=>?_⟩
 obtain⟨b,o,hp,Xc⟩:=hc ZC
 refine⟨b,o,hp,a.ZF ?_ Xc⟩
 have Tl:0<cs.length:=List.length_pos_iff.2 ZC
 exact JR (Xc 0 Tl)
theorem Own.sl {B:Nat} {E:TypeId} {n:Nat} {h:Hp} {v:Value} {m:Nat} {cs:List Value} (s:Own B E n h v m cs):Sl n h v m cs:=by
 rcases s with⟨⟨p,rfl⟩,rfl,rfl⟩|⟨b,cap,Zy,hB,rfl,hb,hl,_,_⟩
 ·exact⟨p,0,rfl,by simp,fun h=>(h rfl).elim⟩
 ·refine⟨_,cap,rfl,hl,fun _=>⟨b,0,rfl,fun i hi=>?_⟩⟩
  rw[Yy hb,Nat.zero_add]
  simp[List.getElem?_append_left hi]
theorem Own.nil (B:Nat) (E:TypeId) (n:Nat) (h:Hp):Own B E n h (.slice none 0 0) 0 []:=.inl ⟨⟨none,rfl⟩,rfl,rfl⟩
def Zt:Value→Option Nat
 | .slice (some a) _ cap=>if cap=0 then none else some a.block
 | _=>none
structure Xn (x:Option Nat) (h h':Hp):Prop where
 size:h.size≤h'.size
 block:∀b,b<h.size→x≠some b→h'[b]? = h[b]?
theorem Xn.Yu {x:Option Nat} {h h':Hp} (a:Xn x h h') {B:Nat} (hB:B≤h.size) (hx:∀b,x=some b→B≤b):Zj B h h':=
 ⟨a.size,fun k hk=>a.block k (by omega) (fun e=>by have:=hx k e;omega)⟩
theorem Own.Mb {B:Nat} {E:TypeId} {n:Nat} {h:Hp} {v:Value} {m:Nat} {cs:List Value} (s:Own B E n h v m cs):∀b,Zt v=some b→B≤b:=by
 intro b hb
 rcases s with⟨⟨p,rfl⟩,_,_⟩|⟨b',cap,Zy,hB,rfl,_⟩
 ·cases p<;>simp[Zt]at hb
 ·simp only[Zt]at hb
  split at hb
  ·cases hb
  ·simp only[Option.some.injEq]at hb;omega
theorem Own.X7 {B:Nat} {E:TypeId} {n:Nat} {h h':Hp} {v:Value} {m:Nat} {cs:List Value} (s:Own B E n h v m cs) {x:Option Nat} (a:Xn x h h') (hx:∀b,Zt v=some b→x≠some b):Own B E n h' v m cs:=by
 rcases s with s|⟨b,cap,Zy,hB,rfl,hb,r⟩
 ·exact .inl s
 ·by_cases hc:cap=0
  ·subst hc
   obtain⟨r1,r2,r3⟩:=r
   have hm:m=0:=by omega
   subst hm
   exact .inl ⟨⟨_,rfl⟩,rfl,List.eq_nil_of_length_eq_zero (by simpa using r1)⟩
  ·exact .inr ⟨b,cap,Zy,hB,rfl,by rw[a.block b (Zb hb) (hx b (by simp[Zt,hc]))];exact hb,r⟩
theorem Xn.push {h:Hp} (o:Obj) {x:Option Nat}:Xn x h (h.push o):=⟨by simp,fun k hk _=>by rw[Array.getElem?_push,if_neg (by omega)]⟩
theorem Xn.refl {h:Hp} {x:Option Nat}:Xn x h h:=⟨Nat.le_refl _,fun _ _ _=>rfl⟩
theorem Own.push {B:Nat} {E:TypeId} {n:Nat} {h:Hp} {v:Value} {m:Nat} {cs:List Value} (s:Own B E n h v m cs) (o:Obj):Own B E n (h.push o) v m cs:=
 s.X7 (x:=none) (Xn.push o) (fun _ _=>by simp)
theorem Own.Yu {B C:Nat} {E:TypeId} {n:Nat} {h h':Hp} {v:Value} {m:Nat} {cs:List Value} (s:Own B E n h v m cs) (a:Zj C h h') (hC:h.size≤C):Own B E n h' v m cs:=
 s.X7 (x:=none) ⟨a.size,fun b hb _=>a.block b (by omega)⟩ (fun _ _=>by simp)
theorem Own.mono {B B':Nat} {E:TypeId} {n:Nat} {h:Hp} {v:Value} {m:Nat} {cs:List Value} (s:Own B E n h v m cs) (hB:B'≤B):Own B' E n h v m cs:=by
 rcases s with s|⟨b,cap,Zy,hb,r⟩
 ·exact .inl s
 ·exact .inr ⟨b,cap,Zy,by omega,r⟩
section
variable {P:Program} {T:World} {K:Value→Hp→Prop} {F:Env} {h:Hp} {ty:TypeId}
theorem Zv {n m:Nat} {v:Value} {cs:List Value} (s:Sl n h v m cs) {Q:Array Value→Hp→Prop} (H:Q cs.toArray h):hw P (Builtin.firstCells n m v) Q h:=by
 obtain⟨p,cap,rfl,hl,hc⟩:=s
 cases p with
 | none=>
  have:cs=[]:=by
   cases cs with
   | nil=>rfl
   | cons x l=>obtain⟨b,o,hp,_⟩:=hc (by simp);cases hp
  subst this
  exact H
 | some a=>
  show hw P (loadCells a (m*n)) Q h
  rw[←hl]
  refine run_loadCells a cs _ 0 #[] (fun j hj=>?_) rfl (by simpa using H)
  obtain⟨b,o,hp,Xc⟩:=hc (by intro e;subst e;simp at hj)
  simp only[Option.some.injEq]at hp
  subst hp
  rw[addr_add,Nat.zero_add,Xc j hj]
  simp[hj]
theorem Sl.lenOf {n m:Nat} {v:Value} {cs:List Value} (s:Sl n h v m cs) {Q:Nat→Hp→Prop}:hw P (Builtin.lenOf v) Q h=Q m h:=by
 obtain⟨p,cap,rfl,_,_⟩:=s;rfl
theorem JS (l r vs:List Value):ZW (l++r) l.length vs=l++ZW r 0 vs:=by
 induction l with
 | nil=>simp
 | cons x l ih=>
  cases vs with
  | nil=>simp[ZW]
  | cons v vs=>simp only[List.cons_append,List.length_cons,ZW];rw[ih]
theorem X8 (r vs:List Value) (h:vs.length≤r.length):ZW r 0 vs=vs++r.drop vs.length:=by
 induction vs generalizing r with
 | nil=>simp[ZW]
 | cons v vs ih=>
  cases r with
  | nil=>simp at h
  | cons x r=>simp only[ZW,List.cons_append,List.length_cons,List.drop_succ_cons];rw[ih r (by simpa using h)]
theorem Yq (z:Array Value) (n:Nat):(Builtin.zeroCells z n).size=n*z.size:=by simp[Builtin.zeroCells]
theorem Xt (YQ cap bytes:Nat) (ZH:cap<YQ) (hb:YQ*bytes≤140737488355328):Builtin.nextslicecap YQ cap*bytes≤281474976710656:=by
 have g1:∀(r c:Nat),YQ≤c→Builtin.growBy YQ r c=c:=by
  intro r c hc
  cases r with
  | zero=>rfl
  | succ r=>simp[Builtin.growBy,hc]
 have g2:∀(r c:Nat),c<YQ→Builtin.growBy YQ r c≤YQ+(YQ+768)/4:=by
  intro r
  induction r with
  | zero=>intro c hc;simp only[Builtin.growBy];omega
  | succ r ih=>
   intro c hc
   simp only[Builtin.growBy]
   rw[if_neg (by omega)]
   by_cases h2:c+(c+768)/4<YQ
   ·exact ih _ h2
   ·rw[g1 r _ (by omega)];omega
 have key:Builtin.nextslicecap YQ cap≤2*YQ+192:=by
  unfold Builtin.nextslicecap
  split
  ·omega
  ·split
   ·omega
   ·have:=g2 4 cap ZH;omega
 have e1:Builtin.nextslicecap YQ cap*bytes≤(2*YQ+192)*bytes:=Nat.mul_le_mul_right _ key
 unfold Builtin.nextslicecap
 split
 ·omega
 ·rename_i h1
  split
  ·have:2*cap*bytes≤2*YQ*bytes:=Nat.mul_le_mul_right _ (by omega)
   have e:2*YQ*bytes=2*(YQ*bytes):=by rw[Nat.mul_assoc]
   omega
  ·rename_i h2
   have hg:=g2 4 cap ZH
   have h3:Builtin.growBy YQ 4 cap*bytes≤(YQ+(YQ+768)/4)*bytes:=Nat.mul_le_mul_right _ hg
   have h4:(YQ+(YQ+768)/4)*bytes≤(2*YQ)*bytes:=Nat.mul_le_mul_right _ (by omega)
   have e:2*YQ*bytes=2*(YQ*bytes):=by rw[Nat.mul_assoc]
   omega
theorem TS {sT xT E E' B n m k bytes:Nat} {v s:Value} {cs news zs:List Value} {cb:Array Bool} (JT:XD P sT=some E) (Ry:P.underlying xT=some (.slice E')) (hn:tn P E=some n) (hz:tz P E=some zs) (Mc:zs.length=n) (QF:tb P E=some bytes)
  (ZJ:Own B E n h v m cs) (hB:B≤h.size) (src:Sl n h s k news) (Qe:news.all Yb=true) (Xd:(m+k)*bytes≤140737488355328) (MP:1≤bytes)
  (H:∀v' h',Own B E n h' v' (m+k) (cs++news)→Xn (Zt v) h h'→K v' h'):UE P T .append #[sT,xT] ty cb [v,s] K h:=by
 unfold XD at JT
 split at JT
 ·rename_i e' hu
  simp only[Option.some.injEq]at JT
  subst JT
  show hw P (do pure (.value (←Builtin.append_ #[sT,xT] ty #[v,s]))) (Z9 P T K) h
  rw[Za]
  show hw P (Builtin.append_ #[sT,xT] ty #[v,s]) K h
  obtain⟨i0,Qf⟩:∃i,P.info? e'=some i:=by
   unfold tn at hn
   cases hi:P.info? e' with
   | none=>rw[hi]at hn;cases hn
   | some i=>exact⟨i,rfl⟩
  have S7:i0.bytes=bytes:=by unfold tb at QF;rw[Qf]at QF;simpa using QF
  obtain⟨z0,LC,LD⟩:∃z,i0.zero=some z∧z.cells.toList=zs:=by
   unfold tz at hz;rw[Qf]at hz
   cases Tk:i0.zero with
   | none=>rw[Option.bind_some,Tk]at hz;cases hz
   | some z=>rw[Option.bind_some,Tk]at hz;exact⟨z,rfl,by simpa using hz⟩
  have ND:∃base cap,v=.slice base m cap:=by
   rcases ZJ with⟨⟨p,rfl⟩,rfl,_⟩|⟨b,cap,sp,_,rfl,_⟩
   ·exact⟨_,_,rfl⟩
   ·exact⟨_,_,rfl⟩
  obtain⟨base,cap,hv⟩:=ND
  subst hv
  have LF:∀{Q:Value→Hp→Prop} (g:Hp),hw P (zeroValue e') Q g=Q z0 g:=fun {Q} g=>by
   unfold zeroValue;rw[Za,ZX Qf];simp only[LC];rfl
  simp only[Builtin.append_,List.getElem?_toArray,List.getElem?_cons_zero,List.getElem?_cons_succ,Za,Zi,Zh hu,Zh Ry,run_sizeOf hn,Bool.false_eq_true,if_false,src.lenOf,Bool.not_false,if_true]
  by_cases YR:m+k≤cap
  ·rw[if_pos YR,Za]
   refine Zv src ?_
   have Ji:news.length=k*n:=by obtain⟨_,_,_,hl,_⟩:=src;exact hl
   by_cases ZC:news=[]
   ·subst ZC
    have Q9:hw P (match base with|some a=>(do storeCells (a.add (m*n)) [];pure (Value.slice base (m+k) cap))|none=>pure (Value.slice base (m+k) cap)) K h=K (.slice base (m+k) cap) h:=by
     cases base<;>rfl
    have hK:K (.slice base (m+k) cap) h:=by
     refine H _ _ ?_ Xn.refl
     rcases ZJ with⟨⟨p,h1⟩,h2,h3⟩|⟨b,Vp,Zy,TT,h1,hb,hl,WU,MQ⟩
     ·simp only[Value.slice.injEq]at h1
      obtain⟨rfl,rfl,rfl⟩:=h1
      have hk:k=0:=by omega
      subst hk;subst h3
      exact .inl ⟨⟨_,rfl⟩,rfl,rfl⟩
     ·simp only[Value.slice.injEq]at h1
      obtain⟨rfl,_,rfl⟩:=h1
      have MR:k*n=0:=by simpa using Ji.symm
      refine .inr ⟨b,cap,Zy,TT,rfl,by simpa using hb,by rw[List.append_nil,hl,Nat.add_mul,MR];rfl,?_,YR⟩
      rw[WU,Nat.sub_mul,Nat.sub_mul,Nat.add_mul,MR,Nat.add_zero]
    cases base<;>exact hK
   rcases ZJ with⟨⟨p,h1⟩,h2,h3⟩|⟨b,Vp,Zy,TT,h1,hb,hl,WU,MQ⟩
   ·simp only[Value.slice.injEq]at h1
    obtain⟨rfl,rfl,rfl⟩:=h1
    have hk:k=0:=by omega
    subst hk
    exact (ZC (List.eq_nil_of_length_eq_zero (by simpa using Ji))).elim
   ·simp only[Value.slice.injEq]at h1
    obtain⟨rfl,_,rfl⟩:=h1
    simp only[Za,addr_add]
    have Jw:news.length≤Zy.length:=by rw[Ji,WU];exact Nat.mul_le_mul_right _ (by omega)
    refine ZK (e:=e') (lo:=0) (hi:=0) rfl (Nat.le_refl _) news 0 h (cs++Zy).toArray hb ?_ Qe ?_
    ·simp;rw[←hl];omega
    ·simp only[Zi,Nat.zero_add,Nat.add_zero]
     refine H _ _ (.inr ⟨b,cap,Zy.drop news.length,TT,rfl,?_,?_,?_,YR⟩) ⟨by simp,fun b' Jg hx=>?_⟩
     ·rw[Array.getElem?_setIfInBounds,if_pos rfl,if_pos (Zb hb)]
      rw[←hl,JS,X8 _ _ Jw,List.append_assoc]
     ·rw[List.length_append,hl,Ji,Nat.add_mul]
     ·rw[List.length_drop,WU,Ji,←Nat.sub_mul];congr 1;omega
     ·rw[Array.getElem?_setIfInBounds,if_neg]
      intro e;subst e
      have KZ:cap≠0:=by
       intro h0;subst h0
       have:k=0:=by omega
       subst this
       exact ZC (List.eq_nil_of_length_eq_zero (by simpa using Ji))
      exact hx (by simp[Zt,KZ])
  ·rw[if_neg YR]
   have TU:¬Builtin.nextslicecap (m+k) cap*i0.bytes>2 ^ 48:=by
    rw[S7]
    have:=Xt (m+k) cap bytes (by omega) Xd
    omega
   have TV:¬i0.bytes=0:=by rw[S7];omega
   simp only[Za,ZX Qf,TV,or_false,and_false,if_false,if_neg TU]
   intro t
   obtain⟨c,hc⟩:=ZE (Question.cut (Question.appendCap (m+k) cap e') t)
   have LG:m+k≤c:=by rw[hc];simp only[Question.cut];omega
   rw[←hc]
   have Wn:∀{Q:Unit→Hp→Prop} (b:Nat) (g:Hp),Q () g→hw P (askRoom b) Q g:=fun {Q} b g q=>by
    unfold askRoom;split<;>exact q
   refine Wn _ _ (Zv ZJ.sl (Zv src ?_))
   rw[LF]
   have LH:z0.cells.size=n:=by rw[←Mc,←LD];simp
   refine H (.slice (some ⟨h.size,0,none⟩) (m+k) c) _ (.inr ⟨h.size,c,(Builtin.zeroCells z0.cells (c-(m+k))).toList,hB,rfl,?_,?_,?_,LG⟩) (Xn.push _)
   ·rw[Array.getElem?_push_size]
    simp
   ·have Ji:news.length=k*n:=by obtain⟨_,_,_,hl,_⟩:=src;exact hl
    have Z7:cs.length=m*n:=by obtain⟨_,_,_,hl,_⟩:=ZJ.sl;exact hl
    rw[List.length_append,Z7,Ji,Nat.add_mul]
   ·rw[Array.length_toList,Yq,LH]
 ·cases JT
def bv (x:Nat):Value:=.int .u8 x
structure Bs (h:Hp) (v:Value) (l:List Nat):Prop where
 sl:Sl 1 h v l.length (l.map bv)
 byte:∀x∈l,x<256
structure Y8 (B:Nat) (E:TypeId) (h:Hp) (v:Value) (l:List Nat):Prop where
 ZJ:Own B E 1 h v l.length (l.map bv)
 byte:∀x∈l,x<256
theorem Y8.bs {B:Nat} {E:TypeId} {h:Hp} {v:Value} {l:List Nat} (s:Y8 B E h v l):Bs h v l:=⟨s.ZJ.sl,s.byte⟩
theorem Bs.Yu {h h':Hp} {v:Value} {l:List Nat} (s:Bs h v l) (a:Zj h.size h h'):Bs h' v l:=⟨s.sl.Yu a,s.byte⟩
theorem Y8.Yu {B C:Nat} {E:TypeId} {h h':Hp} {v:Value} {l:List Nat} (s:Y8 B E h v l) (a:Zj C h h') (hC:h.size≤C):Y8 B E h' v l:=⟨s.ZJ.Yu a hC,s.byte⟩
theorem Y8.mono {B B':Nat} {E:TypeId} {h:Hp} {v:Value} {l:List Nat} (s:Y8 B E h v l) (hB:B'≤B):Y8 B' E h v l:=⟨s.ZJ.mono hB,s.byte⟩
theorem Y8.push {B:Nat} {E:TypeId} {h:Hp} {v:Value} {l:List Nat} (s:Y8 B E h v l) (o:Obj):Y8 B E (h.push o) v l:=⟨s.ZJ.push o,s.byte⟩
theorem Y8.nil (B:Nat) (E:TypeId) (h:Hp):Y8 B E h (.slice none 0 0) []:=⟨Own.nil B E 1 h,fun _ h=>by cases h⟩
theorem Om (l:List Nat):(l.map bv).all Yb=true:=by simp[bv,Yb]
theorem Bs.open {v:Value} {l:List Nat} (s:Bs h v l):∃p cap,v=.slice p l.length cap∧(l≠[]→∃b o,p=some ⟨b,o,none⟩∧b<h.size∧∀i (hi:i<l.length),hc h ⟨b,o+i,none⟩=some (.int .u8 (l[i]:Nat))):=by
 obtain⟨⟨p,cap,hv,_,hc⟩,_⟩:=s
 refine⟨p,cap,hv,fun ZC=>?_⟩
 obtain⟨b,o,hp,Xc⟩:=hc (by simpa using ZC)
 refine⟨b,o,hp,?_,fun i hi=>?_⟩
 ·exact JR (Xc 0 (by simpa using List.length_pos_iff.2 ZC))
 ·have:=Xc i (by simpa using hi)
  simpa [bv] using this
theorem Wu:∀(l:List Nat) (s:ByteArray) {Q:Value→Hp→Prop},Q (.string ⟨s.data++(l.map UInt8.ofNat).toArray⟩) h →
  hw P (do
   let s ←forIn (l.map bv) s fun c (s:ByteArray)=>do
    let .int .u8 n:=c|stuck "bytesToString: byte expected"
    pure (ForInStep.yield (s.push (UInt8.ofNat n.toNat)))
   pure (Value.string s)) Q h:=by
 intro l
 induction l with
 | nil=>intro s Q H;simpa [Zi] using H
 | cons x l ih=>
  intro s Q H
  rw[List.map_cons,List.forIn_cons,Za,Za]
  show hw P _ _ h
  have:=ih (s.push (UInt8.ofNat x)) (Q:=Q) (by simpa [ByteArray.push] using H)
  rw[Za]at this
  simpa [bv,Zi] using this
theorem Vq {S D E:TypeId} {v:Value} {l:List Nat} (hS:P.underlying S=some (.slice E)) (hD:P.underlying D=some .string) (hE:P.underlying E=some (.int .u8)) (s:Bs h v l)
  (H:K (.string ⟨(l.map UInt8.ofNat).toArray⟩) h):XQ P S D v K h:=by
 have s0:=s.sl
 obtain⟨⟨p,cap,rfl,hl,hc⟩,hb⟩:=s
 unfold XQ convert
 rw[Za,Zh hS,Za,Zh hD]
 simp only
 rw[Za,Zh hE]
 unfold Conv.bytesToString
 cases p with
 | none=>
  have:l=[]:=by
   cases l with
   | nil=>rfl
   | cons x l=>obtain⟨b,o,hp,_⟩:=hc (by simp);cases hp
  subst this
  exact H
 | some a=>
  simp only
  rw[Za]
  have h1:=Zv (P:=P) s0 (Q:=fun cs g=>hw P (do
   let s ←forIn cs ByteArray.empty fun c (s:ByteArray)=>do
    let .int .u8 n:=c|stuck "bytesToString: byte expected"
    pure (ForInStep.yield (s.push (UInt8.ofNat n.toNat)))
   pure (Value.string s)) K g)
  unfold Builtin.firstCells at h1
  rw[Nat.mul_one]at h1
  refine h1 ?_
  rw[List.forIn_toArray]
  exact Wu l _ (by simpa using H)
theorem On (l k:List Nat) (hl:∀x∈l,x<256) (hk:∀x∈k,x<256):((⟨(l.map UInt8.ofNat).toArray⟩:ByteArray).toList == (⟨(k.map UInt8.ofNat).toArray⟩:ByteArray).toList)=decide (l=k):=by
 have e:∀l:List Nat,(⟨(l.map UInt8.ofNat).toArray⟩:ByteArray).toList=l.map UInt8.ofNat:=by
  intro l
  rw[ByteArray.toList_eq]
 rw[e,e,Bool.eq_iff_iff,beq_iff_eq,decide_eq_true_eq]
 constructor
 ·intro h
  have h2:(l.map UInt8.ofNat).map UInt8.toNat=(k.map UInt8.ofNat).map UInt8.toNat:=by rw[h]
  rw[List.map_map,List.map_map]at h2
  have g:∀l:List Nat,(∀x∈l,x<256)→l.map (UInt8.toNat ∘ UInt8.ofNat)=l:=by
   intro l hl
   conv=>rhs;rw[←List.map_id l]
   refine List.map_congr_left fun x hx=>?_
   have:=hl x hx
   simp;omega
  rwa [g l hl,g k hk]at h2
 ·intro h;rw[h]
end
attribute [go_sem] NL Ls NM Lt NN PI Rb NO NP PF PG Ra PH Tp PE Tm To Vc PD
 Je Lz PS Rg NV Pk YX Rh NW JE Y1 TA Ri cl Rj Rk U4 Q3 PT TC Vh Wq UJ
 Q4 TD Vi Q5 TE Vj NY Rm Rn Q6 Wr Ro TF
 PU PV PW PX PY PZ NZ P0 Vk P3 P4 P5 P6 P7 P8 P9 Oa N0 N1 N2 Rp Vl
 Rq Rr Ws UK N3 N4 PL Tq Tt Ve Lu NQ Pl PM Tu PO Tv PQ Rc Tw Rd Vf Lv NS Re Rf Vg Q2 NT Wp NU Lx PR Ly Jv
 Y0 Z2 Jq Option.map_some Option.bind_some Option.isSome_some decide_eq_true_eq decide_eq_false_iff_not
attribute [go_sem] Rt TG Vm Ru UL TH Wt TI Q7 UM TJ Vn Rv Od TK Oe N5 LA TL TM TN TO TP Oh TQ Oi Oj
 Ok Rw N6 N7 N8 Rx LB SH N9 TR Ol Ma Td SC nth ZW Te QL Yb List.toList_toArray List.length_cons List.length_nil List.drop_succ_cons List.drop_zero List.take_succ_cons List.take_zero List.set_cons_zero List.set_cons_succ
 List.all_cons List.all_nil Bool.and_true Array.size_push Nat.zero_add List.take_nil List.drop_nil
def vi:Value→Int|.int _ n=>n|_=>0
theorem X9 {α:Type} (l:List α) (i:Nat) (hi:i<l.length):l.take (i+1)=l.take i++[l[i]]:=List.take_succ_eq_append_getElem hi
def D4 (n:Int):Int:=IntKind.i64.wrap n
theorem TW (n:Int):IntKind.i64.wrap n=if -9223372036854775808≤n∧n≤9223372036854775807 then n else D4 n:=by
 split
 ·rename_i h;exact IntWalk.i64_in n h
 ·rfl
theorem Vr (n:Int):IntKind.u8.wrap n=n%256:=by simp[IntKind.wrap,IntKind.bits,IntKind.signed]
theorem Wv (n:Int):IntKind.u32.wrap n=n%4294967296:=by simp[IntKind.wrap,IntKind.bits,IntKind.signed]
theorem Ww (n:Int):IntKind.u64.wrap n=n%18446744073709551616:=by simp[IntKind.wrap,IntKind.bits,IntKind.signed]
attribute [go_sem] TW Vr Wv Ww true_and and_true ne_eq not_true_eq_false not_false_eq_true decide_true decide_false Bool.false_eq_true Int.toNat_natCast Nat.mul_one
open Go.ChangeShapes Go.WideShapes Go.ChangeAt Go.RowKit
def fit (P:Program) (h:Hp):Nat→TypeId→List Value→Prop
 | 0,_,_=>False
 | k+1,t,cs=>
  match P.underlying t with
  | some .bool=>∃b,cs=[.bool b]
  | some (.int i)=>∃n,cs=[.int i n]∧(Lit.int i n).wf=true
  | some .string=>∃s,cs=[.string s]∧s.size≤reachBytes
  | some (.slice e)=>∃p len cap,cs=[.slice p len cap]∧len≤cap∧cap*P.bytesOf e≤reachBytes ∧
    (len≠0→P.cellsOf e≠0→∃b o,p=some ⟨b,o,none⟩∧b<h.size∧∀i,i<len→∃ds,ds.length=P.cellsOf e∧ZF h b (o+i*P.cellsOf e) ds∧fit P h k e ds)
  | some (.struct fs)=>cs.length=P.cellsOf t∧∀f∈fs.toList,fit P h k f.type ((cs.drop f.offset).take (P.cellsOf f.type))
  | some (.array n e)=>cs.length=P.cellsOf t∧∀i,i<n→fit P h k e ((cs.drop (i*P.cellsOf e)).take (P.cellsOf e))
  | _=>True
def RA (P:Program) (h:Hp) (k:Nat) (t:TypeId) (v:Value):Prop:=
 match ta P t with
 | some true=>∃cs:List Value,v=.agg cs.toArray∧fit P h k t cs
 | _=>fit P h k t [v]
def fitAll (P:Program) (h:Hp):List TypeId→List Value→Prop
 | [],[]=>True
 | t :: ts,v :: vs=>(∃k,RA P h k t v)∧fitAll P h ts vs
 | _,_=>False
theorem Xq {α β:Type} {f:α→Option β}:∀{l:List α} {r:List β},l.mapM f=some r→r.length=l.length∧∀(i:Nat) (x:α) (y:β),l[i]? = some x→r[i]? = some y→f x=some y
 | [],r,h=>by
  simp only[List.mapM_nil,pure,Option.some.injEq]at h
  subst h
  exact⟨rfl,fun i x y hx _=>by simp at hx⟩
 | a :: l,r,h=>by
  rw[List.mapM_cons]at h
  cases ha:f a with
  | none=>rw[ha]at h;cases h
  | some b=>
   rw[ha]at h
   cases hl:l.mapM f with
   | none=>simp[hl]at h
   | some bs=>
    simp[hl]at h
    subst h
    obtain⟨h1,h2⟩:=Xq hl
    refine⟨by simp[h1],fun i x y hx hy=>?_⟩
    cases i with
    | zero=>simp at hx hy;subst hx;subst hy;exact ha
    | succ i=>simp at hx hy;exact h2 i x y hx hy
theorem Ua {w:World} {base:Nat} {a:Addr} {n:Nat} {ds:List Value} (h:w.cells? base a n=some ds):ds.length=n∧∀i (hi:i<ds.length),w.cell? (a.add i)=some ds[i]:=by
 unfold World.cells? at h
 split at h
 ·obtain⟨h1,h2⟩:=Xq h
  rw[List.length_range]at h1
  refine⟨h1,fun i hi=>h2 i i ds[i] ?_ ?_⟩
  ·rw[List.getElem?_range (by omega)]
  ·exact List.getElem?_eq_getElem hi
 ·cases h
theorem RB {w:World} {a:Addr} {i:Nat} {v:Value} (h:w.cell? (a.add i)=some v) (hi:i=0):a.spot=none:=by
 subst hi
 have e:a.add 0=a:=by simp[Addr.add]
 rw[e]at h
 unfold World.cell? at h
 split at h
 ·split at h
  ·cases h
  ·rename_i hs;simpa using hs
 ·cases h
theorem XI {H:Type} {P:Program} {q:Nat→Bool}:∀(ts:List TypeId) (ds:List (DataW H)),(DataW.weightsEach P ts ds).all q=true→∀(i:Nat) (t:TypeId) (d:DataW H),ts[i]? = some t→ds[i]? = some d→(d.weights P t).all q=true
 | [],_,_,i,t,d,ht,_=>by simp at ht
 | t :: ts,[],_,i,t',d,_,hd=>by simp at hd
 | t :: ts,d :: ds,h,i,t',d',ht,hd=>by
  simp only[DataW.weightsEach,List.all_append,Bool.and_eq_true]at h
  cases i with
  | zero=>simp at ht hd;subst ht;subst hd;exact h.1
  | succ i=>simp at ht hd;exact XI ts ds h.2 i t' d' ht hd
theorem Y2 {H:Type} {P:Program} {e:TypeId} {q:Nat→Bool}:∀(ds:List (DataW H)),(DataW.weightsAll P e ds).all q=true→∀(i:Nat) (d:DataW H),ds[i]? = some d→(d.weights P e).all q=true
 | [],_,i,d,hd=>by simp at hd
 | d :: ds,h,i,d',hd=>by
  simp only[DataW.weightsAll,List.all_append,Bool.and_eq_true]at h
  cases i with
  | zero=>simp at hd;subst hd;exact h.1
  | succ i=>simp at hd;exact Y2 ds h.2 i d' hd
theorem Xe {H:Type} {enc:TypeId × Value→H} {P:Program} {w:World}:∀(k:Nat) (t:TypeId) (cs:List Value) (d:DataW H) (ps:List MemPlace),
  DataW.trod enc P w 0 (fun _=>true) true k t cs=some (d,ps)→(d.weights P t).all (· ≤ reachBytes)=true→fit P w.heap k t cs
 | 0,t,cs,d,ps,h,_=>by simp[DataW.trod]at h
 | k+1,t,cs,d,ps,h,hw=>by
  unfold DataW.trod at h
  unfold fit
  split at h
  ·rename_i hu;rw[hu];exact⟨_,rfl⟩
  ·rename_i i i' n hu
   rw[hu]
   split at h
   ·rename_i hc;obtain⟨rfl,hc⟩:=hc;exact⟨_,rfl,hc⟩
   ·cases h
  ·rename_i hu;rw[hu];trivial
  ·rename_i s hu
   rw[hu]
   split at h
   ·simp only[Option.some.injEq,Prod.mk.injEq]at h
    obtain⟨rfl,_⟩:=h
    refine⟨_,rfl,?_⟩
    simpa [DataW.weights] using hw
   ·cases h
  ·rename_i hu;rw[hu];trivial
  ·rename_i hu;rw[hu];trivial
  ·rename_i e hu
   rw[hu]
   exact⟨_,_,_,rfl,Nat.le_refl _,by simp,fun h=>(h rfl).elim⟩
  ·rename_i e a len cap hu
   rw[hu]
   split at h
   ·rename_i JO
    simp only[if_true]at h
    cases he:((List.range len).mapM fun i=>(w.cells? 0 (a.add (i*P.cellsOf e)) (P.cellsOf e)).bind (DataW.trod enc P w 0 (fun _=>true) true k e)) with
    | none=>rw[he]at h;cases h
    | some elems=>
     rw[he]at h
     simp only[Option.bind_some]at h
     cases hr:((List.range (cap-len)).mapM fun j=>(w.cells? 0 (a.add ((len+j)*P.cellsOf e)) (P.cellsOf e)).bind (DataW.trod enc P w 0 (fun _=>true) true k e)) with
     | none=>rw[hr]at h;cases h
     | some rest=>
      rw[hr]at h
      simp only[Option.map_some,Option.some.injEq,Prod.mk.injEq]at h
      obtain⟨rfl,_⟩:=h
      obtain⟨l1,g1⟩:=Xq he
      obtain⟨l2,_⟩:=Xq hr
      rw[List.length_range]at l1 l2
      simp only[DataW.weights,hu,List.all_cons,List.all_append,Bool.and_eq_true,List.length_map,decide_eq_true_eq]at hw
      refine⟨_,_,_,rfl,JO.2.1,?_,fun hlen SI=>?_⟩
      ·have:elems.length+rest.length=cap:=by omega
       rw[←this];exact hw.1
      ·have K0:∀i,i<len→∃ds x,w.cells? 0 (a.add (i*P.cellsOf e)) (P.cellsOf e)=some ds∧elems[i]? = some x∧DataW.trod enc P w 0 (fun _=>true) true k e ds=some x:=by
        intro i hi
        have hx:elems[i]? = some elems[i]:=List.getElem?_eq_getElem (by omega)
        have:=g1 i i elems[i] (by rw[List.getElem?_range hi]) hx
        cases hc:w.cells? 0 (a.add (i*P.cellsOf e)) (P.cellsOf e) with
        | none=>rw[hc]at this;cases this
        | some ds=>rw[hc]at this;exact⟨ds,_,rfl,hx,this⟩
       obtain⟨Ew,x0,K1,_,_⟩:=K0 0 (by omega)
       obtain⟨q1,q2⟩:=Ua K1
       have e0:a.add (0*P.cellsOf e)=a:=by simp[Addr.add]
       rw[e0]at q2
       have WU:a.spot=none:=RB (q2 0 (by omega)) rfl
       have LI:w.cell? a=some Ew[0]:=by have:=q2 0 (by omega);simpa [Addr.add] using this
       have ZH:a.block<w.heap.size:=JR (h:=w.heap) (p:=a) (v:=Ew[0]) LI
       refine⟨a.block,a.off,?_,ZH,fun i hi=>?_⟩
       ·obtain⟨b,o,s⟩:=a;simp only at WU;subst WU;rfl
       ·obtain⟨ds,x,hc,hx,ht⟩:=K0 i hi
        obtain⟨r1,r2⟩:=Ua hc
        refine⟨ds,r1,fun j hj=>?_,?_⟩
        ·have:=r2 j hj
         rw[X6 a _ WU,addr_add]at this
         exact this
        ·refine Xe k e ds x.1 x.2 ht ?_
         exact Y2 _ hw.2.1 i x.1 (by rw[List.getElem?_map,hx];rfl)
   ·cases h
  ·rename_i cs _ _ fs hu
   rw[hu]
   split at h
   ·rename_i hlen
    cases hm:(fs.toList.mapM fun f=>DataW.trod enc P w 0 (fun _=>true) true k f.type ((cs.drop f.offset).take (P.cellsOf f.type))) with
    | none=>rw[hm]at h;cases h
    | some xs=>
     rw[hm]at h
     simp only[Option.map_some,Option.some.injEq,Prod.mk.injEq]at h
     obtain⟨rfl,_⟩:=h
     obtain⟨l1,g1⟩:=Xq hm
     refine⟨hlen,fun f hf=>?_⟩
     obtain⟨i,hi,NI⟩:=List.mem_iff_getElem.1 hf
     have hx:xs[i]? = some xs[i]:=List.getElem?_eq_getElem (by omega)
     have K3:fs.toList[i]? = some f:=by rw[List.getElem?_eq_getElem hi,NI]
     refine Xe k _ _ xs[i].1 xs[i].2 (g1 i f xs[i] K3 hx) ?_
     simp only[DataW.weights,hu]at hw
     exact XI _ _ hw i f.type xs[i].1 (by rw[List.getElem?_map,K3];rfl) (by rw[List.getElem?_map,hx];rfl)
   ·cases h
  ·rename_i cs _ _ n e hu
   rw[hu]
   split at h
   ·rename_i hlen
    cases hm:((List.range n).mapM fun i=>DataW.trod enc P w 0 (fun _=>true) true k e ((cs.drop (i*P.cellsOf e)).take (P.cellsOf e))) with
    | none=>rw[hm]at h;cases h
    | some xs=>
     rw[hm]at h
     simp only[Option.map_some,Option.some.injEq,Prod.mk.injEq]at h
     obtain⟨rfl,_⟩:=h
     obtain⟨l1,g1⟩:=Xq hm
     rw[List.length_range]at l1
     refine⟨hlen,fun i hi=>?_⟩
     have hx:xs[i]? = some xs[i]:=List.getElem?_eq_getElem (by omega)
     refine Xe k _ _ xs[i].1 xs[i].2 (g1 i i xs[i] (by rw[List.getElem?_range hi]) hx) ?_
     simp only[DataW.weights,hu]at hw
     exact Y2 _ hw i xs[i].1 (by rw[List.getElem?_map,hx];rfl)
   ·cases h
  all_goals first|(cases h;done)|(rename_i hu;rw[hu];trivial)
theorem Md {P:Program} {w:World} {r:Reach} {base:Nat} {t:TypeId} {cs:Array Value} (ha:ta P t=some false) (h:Value.okWide P w r base t (.agg cs)):False:=by
 unfold ta at ha
 unfold Value.okWide at h
 cases hu:P.underlying t with
 | none=>rw[hu]at ha;cases ha
 | some d=>
  rw[hu]at ha h
  cases d<;>simp at ha<;>simp[Cell.okWide,Cell.ok,hu]at h
theorem Me {H:Type} {enc:TypeId × Value→H} {P:Program} {w:World} {r:Reach} {base:Nat} {t:TypeId} {v:Value} {d:DataW H} {ps:List MemPlace}
  (Ex:(ta P t).isSome=true) (ZN:Value.okWide P w r base t v) (h:DataW.Trod enc P w 0 (fun _=>true) true t v d ps) (hw:(d.weights P t).all (· ≤ reachBytes)=true):∃k,RA P w.heap k t v:=by
 obtain⟨k,hk⟩:=h
 have hf:=Xe k t _ d ps hk hw
 refine⟨k,?_⟩
 unfold RA
 cases ha:ta P t with
 | none=>rw[ha]at Ex;cases Ex
 | some b=>
  cases b with
  | true=>
   unfold ta at ha
   unfold Value.okWide at ZN
   cases hu:P.underlying t with
   | none=>rw[hu]at ha;cases ha
   | some d'=>
    rw[hu]at ha ZN
    have:∃cs,v=.agg cs:=by
     cases d'<;>simp at ha<;>(obtain⟨cs,hv,_⟩:=ZN;exact⟨cs,hv⟩)
    obtain⟨cs,rfl⟩:=this
    exact⟨cs.toList,by simp,hf⟩
  | false=>
   have:v.cells.toList=[v]:=by
    cases v with
    | agg cs=>exact (Md ha ZN).elim
    | _=>rfl
   rw[this]at hf
   exact hf
theorem U5 {H:Type} {enc:TypeId × Value→H} {P:Program} {w:World} {base:Nat}:∀(ts:List TypeId) (vs:List Value) (ds:List (DataW H)) (ps:List MemPlace),
  ts.all (fun t=>(ta P t).isSome)=true→(∀(j:Nat) t v,ts[j]? = some t→vs[j]? = some v→Value.okWide P w .any base t v)→DataW.TrodAll enc P w 0 (fun _=>true) true ts vs ds ps →
  (DataW.weightsEach P ts ds).all (· ≤ reachBytes)=true→fitAll P w.heap ts vs
 | [],vs,ds,ps,_,_,h,_=>by
  obtain⟨rfl,rfl,rfl⟩:=trodAll_nil h
  trivial
 | t :: ts,vs,ds,ps,ha,hv,h,hw=>by
  obtain⟨v,K4,d,K5,p,q,rfl,rfl,rfl,h1,h2⟩:=trodAll_cons h
  simp only[List.all_cons,Bool.and_eq_true]at ha
  simp only[DataW.weightsEach,List.all_append,Bool.and_eq_true]at hw
  exact⟨Me ha.1 (hv 0 t v rfl rfl) h1 hw.1,U5 ts K4 K5 q ha.2 (fun j t v ht K7=>hv (j+1) t v ht K7) h2 hw.2⟩
theorem Jj {H:Type} {enc:TypeId × Value→H} {P:Program} (hl:laidOutB P=true) {W W':World} (hb:Below W.heap.size W W'):∀(ts:List TypeId) (vs:List Value) (ds:List (DataW H)) (ps:List MemPlace),
  ts.all (fun t=>P.readableRec t&&decide (t<P.types.size))=true→DataW.TrodAll enc P W 0 (fun _=>true) true ts vs ds ps→(∀x∈ps,x.block<W.heap.size) →
  DataW.TrodAll enc P W' 0 (fun b=>decide (b<W.heap.size)) true ts vs ds ps
 | [],vs,ds,ps,_,h,_=>by
  obtain⟨rfl,rfl,rfl⟩:=trodAll_nil h
  rfl
 | t :: ts,vs,ds,ps,ha,h,ZH=>by
  obtain⟨v,K4,d,K5,p,q,rfl,rfl,rfl,h1,h2⟩:=trodAll_cons h
  simp only[List.all_cons,Bool.and_eq_true,decide_eq_true_eq]at ha
  exact⟨p,q,Below.trod hl ha.1.1 ha.1.2 h1 hb (fun x hx=>ZH x (by simp[hx])),Jj hl hb ts K4 K5 q ha.2 h2 (fun x hx=>ZH x (by simp[hx])),rfl⟩
theorem XT {H:Type} {enc:TypeId × Value→H} {P:Program} {w:World} {b:Nat} {sp:Nat→Bool} {hd:Bool}:∀(ts:List TypeId) (vs:List Value) (ds:List (DataW H)) (ps:List MemPlace),DataW.TrodAll enc P w b sp hd ts vs ds ps→ds.length=ts.length
 | [],vs,ds,ps,h=>by obtain⟨rfl,rfl,rfl⟩:=trodAll_nil h;rfl
 | t :: ts,vs,ds,ps,h=>by
  obtain⟨v,K4,d,K5,p,q,rfl,rfl,rfl,h1,h2⟩:=trodAll_cons h
  simp[XT ts K4 K5 q h2]
theorem Oo {W W':World} {h':Hp} (hs:ZT W W' h') (hb:Zj W.heap.size W.heap h'):Below W.heap.size W W':=
 ⟨hs.os,hs.tape,hs.output,by rw[hs.heap];exact hb.size,fun k hk=>by rw[hs.heap];exact hb.block k hk⟩
theorem Oq {P:Program} {rest:List (List Char)} (h:behindMainWord (wordsSigns P.initOrder.toList) = "cut".toList :: rest):P.make=some .cut:=by
 unfold Program.make
 rw[h]
 simp only
 rw[if_neg (by decide),if_pos (by rfl)]
theorem U6 (rest:List (List Char)):stripLifts liftWords ("cut".toList :: rest)=([], "cut".toList :: rest):=by rfl
theorem RC {P:Program} {rest:List (List Char)} (h:behindMainWord (wordsSigns P.initOrder.toList) = "cut".toList :: rest):P.liftsFinal=false:=by
 unfold Program.liftsFinal Program.headLifts
 rw[h,U6]
 rfl
theorem RD {P:Program} {rest:List (List Char)} (h:behindMainWord (wordsSigns P.initOrder.toList) = "cut".toList :: rest) (h1:P.laysLater=false) (h2:P.bearsReflect=false) (h3:P.doorFits []=true):P.mayEnter=true:=by
 unfold Program.mayEnter
 rw[h]
 simp only[U6,h1,h2,h3]
 rw[Bool.or_eq_true]
 exact .inr rfl
theorem RE {P:Program} {L:List Char} (h:P.initOrder=String.ofList L) (h2:((behindMainWord (wordsSigns L)).head? == some "cut".toList)=true):∃rest,behindMainWord (wordsSigns P.initOrder.toList) = "cut".toList :: rest:=by
 rw[h,String.toList_ofList]
 revert h2
 cases behindMainWord (wordsSigns L) with
 | nil=>intro h;cases h
 | cons a l=>
  intro h
  have h':a = "cut".toList:=by
   have:=eq_of_beq h
   simpa using this
  exact⟨l,by rw[h']⟩
end Go.V
