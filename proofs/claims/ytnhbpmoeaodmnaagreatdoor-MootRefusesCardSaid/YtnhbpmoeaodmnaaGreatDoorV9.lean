/- V1: a small calculus of weakest preconditions on heaps (arrays of objects), over the model's own rules: what draws is 'for all', and a function's frame is a function of slots. -/
import Derived.Calls
import Derived.OrdersHeld
import Derived.Still
import Derived.Tactics
import Derived.Laws.Sem
import Derived.KernelRfl
import Derived.IntWalk
import Derived.Laws.Strings
import Derived.WalkKit
import Derived.ProofKit
import Derived.OpenShut
import Derived.SizedLaws
import Derived.JoinedCond
import Derived.Deep.CondSized
import Derived.Carry
namespace Go.V
abbrev Env:=Nat→Value
def upd (F:Env) (d:Nat) (v:Value):Env:=fun t=>if t=d then v else F t
def updo (F:Env):Option Nat→Value→Env
 | none,_=>F
 | some d,v=>upd F d v
def ev (F:Env):Operand→Value
 | .tmp t=>F t
 | .const v=>v
 | .global g=>.pointer (some ⟨g,0,none⟩)
 | .func f=>.func (.func f) #[] #[]
def envL:List Value→Nat→Env
 | [],_=>fun _=>undef
 | v :: l,k=>upd (envL l (k+1)) k v
def env (a:Act):Env:=fun t=>a.tmps.getD t undef
theorem eval_env (a:Act):a.eval=ev (env a):=by
 funext x; cases x <;> rfl
theorem env_put (a:Act) (dst:Option Nat) (v:Value) (h:∀ d,dst=some d→d<a.tmps.size):env (a.put dst v)=updo (env a) dst v:=by
 cases dst with
 | none=>rfl
 | some d=>
  funext t
  have hd:=h d rfl
  simp only [env,Act.put,updo,upd,Array.getD_eq_getD_getElem?,Array.getElem?_setIfInBounds]
  by_cases htd:d=t
  ·subst htd; simp [hd]
  ·rw [if_neg htd,if_neg (fun h=>htd h.symm)]
theorem size_put (a:Act) (dst:Option Nat) (v:Value):(a.put dst v).tmps.size=a.tmps.size:=by
 cases dst <;> simp [Act.put]
abbrev Hp:=Array Obj
structure Sees (T:World) (w:World) (h:Hp):Prop where
 heap:w.heap=h
 tape:w.tape=T.tape
 os:w.os=T.os
 output:w.output=T.output
def hc (h:Hp) (a:Addr):Option Value:=
 match h[a.block]? with
 | some (.cells c _ _)=>if a.spot.isSome then none else c[a.off]?
 | _=>none
def hshape (h:Hp) (r:Nat):Option (TypeId × Nat):=
 match h[r]? with
 | some (.cells c elem _)=>some (elem,c.size)
 | _=>none
def hfr (h:Hp) (a:Addr):Bool:=
 match h[a.block]? with
 | some (.cells _ _ (lo,hi))=>lo≤a.off && a.off<hi
 | _=>false
def hset (h:Hp) (a:Addr) (v:Value):Hp:=
 h.modify a.block fun
  | .cells c elem frozen=>.cells (if a.spot.isSome then c else c.setIfInBounds a.off v) elem frozen
  | o=>o
def hfreeze (h:Hp) (a:Addr) (n:Nat):Hp:=
 if n=0 then h else
 h.modify a.block fun
  | .cells c elem (lo,hi)=>.cells c elem (if lo == hi then (a.off,a.off+n) else (min lo a.off,max hi (a.off+n)))
  | o=>o
def isCells:Obj→Bool
 | .cells .. => true
 | _=>false
def oneC:Value→Bool
 | .agg _ | .tuple _=>false
 | _=>true
def hw {α:Type} (P:Program):Sem α→(α→Hp→Prop)→Hp→Prop
 | .pure a,Q,h=>Q a h
 | .load _ a k,Q,h=>∃ v,hc h a=some v∧hw P (k v) Q h
 | .store _ a v k,Q,h=>oneC v=true∧(∃ u,hc h a=some u)∧hfr h a=false∧hw P k Q (hset h a v)
 | .new o k,Q,h=>hw P (k h.size) Q (h.push o)
 | .shape r k,Q,h=>hw P (k (hshape h r)) Q h
 | .freeze a n k,Q,h=>hw P k Q (hfreeze h a n)
 | .frozen a k,Q,h=>hw P (k (hfr h a)) Q h
 | .getObj r k,Q,h=>∃ o,h[r]? = some o∧isCells o=false∧hw P (k o) Q h
 | .setObj r o k,Q,h=>(∃ o',h[r]? = some o'∧isCells o'=false)∧hw P k Q (h.setIfInBounds r o)
 | .choose q k,Q,h=>if q.forced then hw P (k 0) Q h else ∀ t,hw P (k (q.cut t)) Q h
 | .sys _ _,_,_=>False
 | .program k,Q,h=>hw P (k P) Q h
 | .mark _ k,Q,h=>hw P k Q h
 | .halt _,_,_=>False
theorem hw_sound {α:Type} {P:Program} {T:World}:∀ (s:Sem α) (Q:α→Hp→Prop) (h:Hp),hw P s Q h→∀ w,Sees T w h →
  ∃ a w' h',s.run P w=.ok a w'∧Sees T w' h'∧Q a h':=by
 intro s
 induction s with
 | pure a=>intro Q h H w hs; exact ⟨a,w,h,rfl,hs,H⟩
 | load m a k ih=>
  intro Q h H w hs
  obtain ⟨v,hv,H⟩:=H
  obtain ⟨a',w',h',hr,r⟩:=ih v Q h H w hs
  refine ⟨a',w',h',?_,r⟩
  have:w.cell? a=some v:=by rw [World.cell?,hs.heap]; exact hv
  rw [Sem.run,this]; exact hr
 | store m a v k ih=>
  intro Q h H w hs
  obtain ⟨h1,⟨u,h2⟩,h3,H⟩:=H
  have hs':Sees T (w.setCell a v) (hset h a v):=⟨by simp only [World.setCell,hset,hs.heap]; rfl,hs.tape,hs.os,hs.output⟩
  obtain ⟨a',w',h',hr,r⟩:=ih Q _ H _ hs'
  refine ⟨a',w',h',?_,r⟩
  have e1:w.cell? a=some u:=by rw [World.cell?,hs.heap]; exact h2
  have e2:w.frozen? a=false:=by rw [World.frozen?,hs.heap]; exact h3
  cases v <;> first | (simp [oneC] at h1; done) | (simp only [Sem.run,e1,e2,Bool.false_eq_true,if_false]; exact hr)
 | new o k ih=>
  intro Q h H w hs
  have hs':Sees T { w with heap:=w.heap.push o } (h.push o):=⟨by simp only [hs.heap],hs.tape,hs.os,hs.output⟩
  have e:w.heap.size=h.size:=by rw [hs.heap]
  obtain ⟨a',w',h',hr,r⟩:=ih h.size Q _ H _ hs'
  refine ⟨a',w',h',?_,r⟩
  rw [Sem.run,e]; exact hr
 | shape r k ih=>
  intro Q h H w hs
  obtain ⟨a',w',h',hr,r'⟩:=ih _ Q h H w hs
  refine ⟨a',w',h',?_,r'⟩
  have:w.shape? r=hshape h r:=by rw [World.shape?,hs.heap]; rfl
  rw [Sem.run,this]; exact hr
 | freeze a n k ih=>
  intro Q h H w hs
  have hs':Sees T (w.freeze a n) (hfreeze h a n):=by
   unfold World.freeze hfreeze
   split
   ·exact hs
   ·exact ⟨by simp only [hs.heap]; rfl,hs.tape,hs.os,hs.output⟩
  obtain ⟨a',w',h',hr,r'⟩:=ih Q _ H _ hs'
  exact ⟨a',w',h',by rw [Sem.run]; exact hr,r'⟩
 | frozen a k ih=>
  intro Q h H w hs
  obtain ⟨a',w',h',hr,r'⟩:=ih _ Q h H w hs
  refine ⟨a',w',h',?_,r'⟩
  have:w.frozen? a=hfr h a:=by rw [World.frozen?,hs.heap]; rfl
  rw [Sem.run,this]; exact hr
 | getObj r k ih=>
  intro Q h H w hs
  obtain ⟨o,ho,hc,H⟩:=H
  obtain ⟨a',w',h',hr,r'⟩:=ih o Q h H w hs
  refine ⟨a',w',h',?_,r'⟩
  have e:w.heap[r]? = some o:=by rw [hs.heap]; exact ho
  simp only [Sem.run,e]
  cases o <;> first | (simp [isCells] at hc; done) | exact hr
 | setObj r o k ih=>
  intro Q h H w hs
  obtain ⟨⟨o',ho,hc⟩,H⟩:=H
  have hs':Sees T { w with heap:=w.heap.setIfInBounds r o } (h.setIfInBounds r o):=⟨by simp only [hs.heap],hs.tape,hs.os,hs.output⟩
  obtain ⟨a',w',h',hr,r'⟩:=ih Q _ H _ hs'
  refine ⟨a',w',h',?_,r'⟩
  have e:w.heap[r]? = some o':=by rw [hs.heap]; exact ho
  simp only [Sem.run,e]
  cases o' <;> first | (simp [isCells] at hc; done) | exact hr
 | choose q k ih=>
  intro Q h H w hs
  simp only [hw] at H
  split at H
  ·rename_i hq
   obtain ⟨a',w',h',hr,r'⟩:=ih _ Q h H w hs
   exact ⟨a',w',h',by rw [Sem.run,if_pos hq]; exact hr,r'⟩
  ·rename_i hq
   have hs':Sees T { w with drawn:=w.drawn+1 } h:=⟨hs.heap,hs.tape,hs.os,hs.output⟩
   obtain ⟨a',w',h',hr,r'⟩:=ih _ Q h (H (w.tape w.drawn q)) _ hs'
   exact ⟨a',w',h',by rw [Sem.run,if_neg hq]; exact hr,r'⟩
 | sys c k ih=>intro Q h H; exact H.elim
 | program k ih=>
  intro Q h H w hs
  obtain ⟨a',w',h',hr,r'⟩:=ih _ Q h H w hs
  exact ⟨a',w',h',by rw [Sem.run]; exact hr,r'⟩
 | mark m k ih=>
  intro Q h H w hs
  obtain ⟨a',w',h',hr,r'⟩:=ih Q h H w hs
  exact ⟨a',w',h',by rw [Sem.run]; exact hr,r'⟩
 | halt x=>intro Q h H; exact H.elim
theorem hw_bind {α β:Type} {P:Program} (s:Sem α) (f:α→Sem β) (Q:β→Hp→Prop):∀ h,hw P (s >>= f) Q h=hw P s (fun a h'=>hw P (f a) Q h') h:=by
 show ∀ h,hw P (s.bind f) Q h=_
 induction s with
 | pure a=>intro h; rfl
 | load m a k ih=>intro h; simp only [Sem.bind,hw,ih]
 | store m a v k ih=>intro h; simp only [Sem.bind,hw,ih]
 | new o k ih=>intro h; simp only [Sem.bind,hw,ih]
 | shape r k ih=>intro h; simp only [Sem.bind,hw,ih]
 | freeze a n k ih=>intro h; simp only [Sem.bind,hw,ih]
 | frozen a k ih=>intro h; simp only [Sem.bind,hw,ih]
 | getObj r k ih=>intro h; simp only [Sem.bind,hw,ih]
 | setObj r o k ih=>intro h; simp only [Sem.bind,hw,ih]
 | choose q k ih=>intro h; simp only [Sem.bind,hw,ih]
 | sys c k ih=>intro h; simp only [Sem.bind,hw]
 | program k ih=>intro h; simp only [Sem.bind,hw,ih]
 | mark m k ih=>intro h; simp only [Sem.bind,hw,ih]
 | halt x=>intro h; rfl
theorem hw_mono {α:Type} {P:Program} {Q Q':α→Hp→Prop} (hq:∀ a h,Q a h→Q' a h):∀ (s:Sem α) (h:Hp),hw P s Q h→hw P s Q' h:=by
 intro s
 induction s with
 | pure a=>intro h H; exact hq _ _ H
 | load m a k ih=>intro h H; obtain ⟨v,hv,H⟩:=H; exact ⟨v,hv,ih _ _ H⟩
 | store m a v k ih=>intro h H; obtain ⟨h1,h2,h3,H⟩:=H; exact ⟨h1,h2,h3,ih _ H⟩
 | new o k ih=>intro h H; exact ih _ _ H
 | shape r k ih=>intro h H; exact ih _ _ H
 | freeze a n k ih=>intro h H; exact ih _ H
 | frozen a k ih=>intro h H; exact ih _ _ H
 | getObj r k ih=>intro h H; obtain ⟨o,h1,h2,H⟩:=H; exact ⟨o,h1,h2,ih _ _ H⟩
 | setObj r o k ih=>intro h H; obtain ⟨h1,H⟩:=H; exact ⟨h1,ih _ H⟩
 | choose q k ih=>
  intro h H
  simp only [hw] at H ⊢
  split at H
  ·rename_i hf; rw [if_pos hf]; exact ih _ _ H
  ·rename_i hf; rw [if_neg hf]; exact fun t=>ih _ _ (H t)
 | sys c k ih=>intro h H; exact H
 | program k ih=>intro h H; exact ih _ _ H
 | mark m k ih=>intro h H; exact ih _ H
 | halt x=>intro h H; exact H
def CallsH (P:Program) (T:World) (f:FuncId) (args:Array Value) (h:Hp) (Q:Value→Hp→Prop):Prop:=
 ∀ w,Sees T w h→Calls P f args w fun e w'=>∃ v h',e=.returned v∧Sees T w' h'∧Q v h'
theorem CallsH.mono {P:Program} {T:World} {f:FuncId} {args:Array Value} {h:Hp} {Q Q':Value→Hp→Prop} (H:CallsH P T f args h Q)
  (hq:∀ v h',Q v h'→Q' v h'):CallsH P T f args h Q':=
 fun w hs=>(H w hs).mono fun _ _ ⟨v,h',he,hs',q⟩=>⟨v,h',he,hs',hq _ _ q⟩
def vNext (P:Program) (T:World) (K:Value→Hp→Prop):Next→Hp→Prop
 | .value v,h=>K v h
 | .skip,h=>K undef h
 | .enter f args,h=>CallsH P T f args h K
 | _,_=>False
def vOp (P:Program) (T:World) (o:Oper) (K:Value→Hp→Prop) (F:Env) (h:Hp):Prop:=
 hw P (execOp (ev F) o) (vNext P T K) h
theorem vNext_mono {P:Program} {T:World} {K K':Value→Hp→Prop} (hk:∀ v h,K v h→K' v h):∀ (x:Next) (h:Hp),vNext P T K x h→vNext P T K' x h:=by
 intro x h H
 cases x <;> simp only [vNext] at H ⊢ <;> first | exact hk _ _ H | exact H.mono hk
theorem vOp_mono {P:Program} {T:World} {o:Oper} {K K':Value→Hp→Prop} {F:Env} {h:Hp} (hk:∀ v h,K v h→K' v h) (H:vOp P T o K F h):vOp P T o K' F h:=
 hw_mono (vNext_mono hk) _ _ H
theorem wp_of_vOp {P:Program} {T:World} {o:Oper} {K:Value→Hp→Prop} {F:Env} {h:Hp} (H:vOp P T o K F h) {a:Act} {w:World} (hF:env a=F) (hs:Sees T w h)
  {next:Act→World→Prop} {Q:Exit→Act→World→Prop} (hk:∀ v w' h',Sees T w' h'→K v h'→next (a.put o.dst v) w'):o.wp P a w next Q:=by
 obtain ⟨x,w',h',hr,hs',hx⟩:=hw_sound _ _ _ H w hs
 unfold Oper.wp
 rw [eval_env,hF,hr]
 cases x <;> simp only [vNext] at hx
 case value v=>exact hk _ _ _ hs' hx
 case skip=>exact hk _ _ _ hs' hx
 case enter f args=>
  simp only [Oper.upon]
  exact (hx w' hs').mono fun e w'' ⟨v,h'',he,hs'',q⟩=>by subst he; exact hk _ _ _ hs'' q
def yieldedF (ops:Array Oper) (F:Env) (j:Nat):Option Bool:=
 match (ops[j]?).bind (·.dst) with
 | some t=>match F t with
  | .bool b=>some b
  | _=>none
 | none=>none
def wantedF (ops:Array Oper) (o:Oper) (F:Env):Bool:=Region.wanted o (yieldedF ops F)
def dstOk (n:Nat) (o:Oper):Bool:=match o.dst with | some d=>Nat.blt d n | none=>true
def opsOk (n:Nat) (ops:Array Oper):Bool:=ops.toList.all (dstOk n)
theorem dstOk_spec {n:Nat} {o:Oper} (h:dstOk n o=true):∀ d,o.dst=some d→d<n:=by
 intro d hd
 unfold dstOk at h
 rw [hd] at h
 exact Nat.blt_eq.mp h
theorem yielded_env {n:Nat} {ops:Array Oper} (hok:opsOk n ops=true) (a:Act) (hn:a.tmps.size=n):yielded ops a.tmps=yieldedF ops (env a):=by
 funext j
 unfold yielded yieldedF
 cases hj:ops[j]? with
 | none=>rfl
 | some o=>
  simp only [Option.bind_some]
  cases hd:o.dst with
  | none=>rfl
  | some d=>
   have hlt:d<a.tmps.size:=by
    rw [hn]
    have hm:o∈ops.toList:=by
     have:=Array.mem_of_getElem? hj
     simpa using this
    exact dstOk_spec (List.all_eq_true.1 hok o hm) d hd
   simp only [Option.bind_some]
   rw [Array.getElem?_eq_getElem hlt]
   have:env a d=a.tmps[d]:=by simp [env,hlt]
   rw [this]
   cases a.tmps[d] <;> rfl
def vOps (P:Program) (T:World) (ops:Array Oper) (N:Env→Hp→Prop):List Oper→Env→Hp→Prop
 | [],F,h=>N F h
 | o :: l,F,h=>
  if wantedF ops o F then vOp P T o (fun v h'=>vOps P T ops N l (updo F o.dst v) h') F h
  else vOps P T ops N l (updo F o.dst undef) h
def Post (n:Nat) (T:World) (N:Env→Hp→Prop) (X:Nat→Env→Hp→Prop) (R:Env→Hp→Prop) (e:Exit) (a:Act) (w:World):Prop:=
 a.tmps.size=n∧a.defers=[]∧∃ h,Sees T w h∧match e with
  | .normal=>N (env a) h
  | .exit j=>X j (env a) h
  | .ret=>R (env a) h
  | _=>False
def VS (P:Program) (n:Nat) (T:World) (c:Code) (N:Env→Hp→Prop) (X:Nat→Env→Hp→Prop) (R:Env→Hp→Prop) (F:Env) (h:Hp):Prop:=
 ∀ a w,a.tmps.size=n→a.defers=[]→env a=F→Sees T w h→c.wp P (Post n T N X R) a w
section
variable {P:Program} {n:Nat} {T:World} {N:Env→Hp→Prop} {X:Nat→Env→Hp→Prop} {R:Env→Hp→Prop} {F:Env} {h:Hp}
theorem VS.mono {c:Code} {N':Env→Hp→Prop} {X':Nat→Env→Hp→Prop} {R':Env→Hp→Prop} (H:VS P n T c N X R F h)
  (hN:∀ F h,N F h→N' F h) (hX:∀ j F h,X j F h→X' j F h) (hR:∀ F h,R F h→R' F h):VS P n T c N' X' R' F h:=by
 intro a w h1 h2 h3 h4
 refine Code.wp_mono (fun e a w ⟨q1,q2,h,q3,q4⟩=>⟨q1,q2,h,q3,?_⟩) (H a w h1 h2 h3 h4)
 cases e <;> simp only at q4 ⊢ <;> first | exact hN _ _ q4 | exact hX _ _ _ q4 | exact hR _ _ q4
theorem VS.seq {c d:Code} (H:VS P n T c (fun F h=>VS P n T d N X R F h) X R F h):VS P n T (.seq c d) N X R F h:=by
 intro a w h1 h2 h3 h4
 refine wp_seq (Code.wp_mono (fun e a w ⟨q1,q2,h,q3,q4⟩=>?_) (H a w h1 h2 h3 h4))
 cases e with
 | normal=>exact q4 a w q1 q2 rfl q3
 | exit j=>exact ⟨q1,q2,h,q3,q4⟩
 | ret=>exact ⟨q1,q2,h,q3,q4⟩
 | _=>exact q4.elim
theorem VS.skip (H:N F h):VS P n T .skip N X R F h:=by
 intro a w h1 h2 h3 h4
 exact wp_skip ⟨h1,h2,h,h4,by rw [h3]; exact H⟩
theorem VS.ret (H:R F h):VS P n T .ret N X R F h:=by
 intro a w h1 h2 h3 h4
 exact wp_ret ⟨h1,h2,h,h4,by rw [h3]; exact H⟩
theorem VS.exit {j:Nat} (H:X j F h):VS P n T (.exit j) N X R F h:=by
 intro a w h1 h2 h3 h4
 exact wp_exit ⟨h1,h2,h,h4,by rw [h3]; exact H⟩
theorem VS.block {j:Nat} {c:Code} (H:VS P n T c N (fun i F h=>if i=j then N F h else X i F h) R F h):VS P n T (.block j c) N X R F h:=by
 intro a w h1 h2 h3 h4
 refine wp_block (Code.wp_mono (fun e a w ⟨q1,q2,h,q3,q4⟩=>?_) (H a w h1 h2 h3 h4))
 cases e with
 | normal=>exact ⟨q1,q2,h,q3,q4⟩
 | exit i=>
  simp only [Exit.inBlock]
  simp only at q4
  split
  ·rename_i hij; rw [if_pos hij] at q4; exact ⟨q1,q2,h,q3,q4⟩
  ·rename_i hij; rw [if_neg hij] at q4; exact ⟨q1,q2,h,q3,q4⟩
 | ret=>exact ⟨q1,q2,h,q3,q4⟩
 | _=>exact q4.elim
theorem VS.cond {c:Operand} {x y:Code} {b:Bool} (hc:ev F c=.bool b) (ht:b=true→VS P n T x N X R F h) (hf:b=false→VS P n T y N X R F h) :
  VS P n T (.cond c x y) N X R F h:=by
 intro a w h1 h2 h3 h4
 refine wp_cond_split (t:=b) (by rw [eval_env,h3]; exact hc) (fun hb=>ht hb a w h1 h2 h3 h4) (fun hb=>hf hb a w h1 h2 h3 h4)
theorem VS.loop {c:Code} (I:Env→Hp→Prop) (μ:Env→Hp→Nat) (h0:I F h)
  (round:∀ F h,I F h→VS P n T c (fun F' h'=>I F' h'∧μ F' h'<μ F h) X R F h):VS P n T (.loop c) N X R F h:=by
 intro a w h1 h2 h3 h4
 refine wp_loop (fun a w=>a.tmps.size=n∧a.defers=[]∧Sees T w w.heap∧I (env a) w.heap) (fun a w=>μ (env a) w.heap)
  ⟨h1,h2,by rw [h4.heap]; exact h4,by rw [h3,h4.heap]; exact h0⟩ ?_
 intro a w ⟨q1,q2,q3,q4⟩
 refine Code.wp_mono (fun e a' w' ⟨p1,p2,h',p3,p4⟩=>?_) (round (env a) w.heap q4 a w q1 q2 rfl q3)
 cases e with
 | normal=>
  have e:=p3.heap
  subst e
  exact ⟨⟨p1,p2,p3,p4.1⟩,p4.2⟩
 | exit j=>exact ⟨p1,p2,h',p3,p4⟩
 | ret=>exact ⟨p1,p2,h',p3,p4⟩
 | _=>exact p4.elim
theorem wpList_of_vOps {ops:Array Oper} (hok:opsOk n ops=true):∀ (l:List Oper) (F:Env) (h:Hp),(∀ o∈l,o∈ops.toList)→vOps P T ops N l F h →
  ∀ a w,a.tmps.size=n→a.defers=[]→env a=F→Sees T w h→wpList P ops (Post n T N X R) l a w
 | [],F,h,_,H,a,w,h1,h2,h3,h4=>⟨h1,h2,h,h4,by rw [h3]; exact H⟩
 | o :: l,F,h,hm,H,a,w,h1,h2,h3,h4=>by
  have hd:∀ d,o.dst=some d→d<a.tmps.size:=by
   rw [h1]; exact dstOk_spec (List.all_eq_true.1 hok o (hm o (by simp)))
  have hm':∀ o∈l,o∈ops.toList:=fun x hx=>hm x (by simp [hx])
  have hwt:Region.wanted o (yielded ops a.tmps)=wantedF ops o F:=by rw [yielded_env hok a h1,h3]; rfl
  unfold wpList
  rw [hwt]
  unfold vOps at H
  split at H
  ·rename_i hw
   rw [if_pos hw]
   refine .inl (wp_of_vOp H h3 h4 fun v w' h' hs' hk=>?_)
   exact wpList_of_vOps hok l _ h' hm' hk _ _ (by rw [size_put,h1]) (by cases o.dst <;> exact h2) (by rw [env_put a _ _ hd,h3]) hs'
  ·rename_i hw
   rw [if_neg hw]
   exact wpList_of_vOps hok l _ h hm' H _ _ (by rw [size_put,h1]) (by cases o.dst <;> exact h2) (by rw [env_put a _ _ hd,h3]) h4
theorem VS.region {id:Nat} {ops:Array Oper} (hok:opsOk n ops=true) (H:vOps P T ops N ops.toList F h):VS P n T (.region id ops false) N X R F h:=by
 intro a w h1 h2 h3 h4
 exact wp_region_list (wpList_of_vOps hok ops.toList F h (fun _ h=>h) H a w h1 h2 h3 h4)
def vOpI (P:Program) (T:World) (ops:Array Oper) (i:Nat) (K:Env→Hp→Prop) (F:Env) (h:Hp):Prop:=
 match ops[i]? with
 | none=>K F h
 | some o=>if wantedF ops o F then vOp P T o (fun v h'=>K (updo F o.dst v) h') F h else K (updo F o.dst undef) h
theorem vOpI_mono {ops:Array Oper} {i:Nat} {K K':Env→Hp→Prop} (hk:∀ F h,K F h→K' F h) {F:Env} {h:Hp} (H:vOpI P T ops i K F h):vOpI P T ops i K' F h:=by
 unfold vOpI at *
 split at H
 ·exact hk _ _ H
 ·split at H
  ·rename_i hw; rw [if_pos hw]; exact vOp_mono (fun _ _ q=>hk _ _ q) H
  ·rename_i hw; rw [if_neg hw]; exact hk _ _ H
def vAny (P:Program) (T:World) (ops:Array Oper) (S:Hp→Prop) (N:Env→Hp→Prop):Nat→Array Bool→Env→Hp→Prop
 | 0,listed,F,h=>Region.ready .any ops listed=[]∧N F h
 | k+1,listed,F,h=>(Region.ready .any ops listed=[]→N F h) ∧
   ∀ i∈Region.ready .any ops listed,vOpI P T ops i (fun F' h'=>S h'∧vAny P T ops S N k (listed.setIfInBounds i true) F' h') F h
theorem wpAny_of_vAny {ops:Array Oper} {S:Hp→Prop} (hok:opsOk n ops=true):∀ (k:Nat) (listed:Array Bool) (F:Env) (h:Hp),vAny P T ops S N k listed F h →
  ∀ a w,a.tmps.size=n→a.defers=[]→env a=F→Sees T w h→wpAny P .any ops (Post n T N X R) k listed a w
 | 0,listed,F,h,H,a,w,h1,h2,h3,h4=>⟨H.1,h1,h2,h,h4,by rw [h3]; exact H.2⟩
 | k+1,listed,F,h,H,a,w,h1,h2,h3,h4=>by
  refine ⟨fun h0=>⟨h1,h2,h,h4,by rw [h3]; exact H.1 h0⟩,fun i hi=>?_⟩
  have Hi:=H.2 i hi
  unfold vOpI at Hi
  unfold wpOp
  cases ho:ops[i]? with
  | none=>rw [ho] at Hi; exact wpAny_of_vAny hok k _ F h Hi.2 a w h1 h2 h3 h4
  | some o=>
   rw [ho] at Hi
   simp only at Hi ⊢
   have hd:∀ d,o.dst=some d→d<a.tmps.size:=by
    rw [h1]; exact dstOk_spec (List.all_eq_true.1 hok o (by have:=Array.mem_of_getElem? ho; simpa using this))
   have hwt:Region.wanted o (yielded ops a.tmps)=wantedF ops o F:=by rw [yielded_env hok a h1,h3]; rfl
   rw [hwt]
   split at Hi
   ·rename_i hw
    rw [if_pos hw]
    refine .inl (wp_of_vOp Hi h3 h4 fun v w' h' hs' hk=>?_)
    exact wpAny_of_vAny hok k _ _ h' hk.2 _ _ (by rw [size_put,h1]) (by cases o.dst <;> exact h2) (by rw [env_put a _ _ hd,h3]) hs'
   ·rename_i hw
    rw [if_neg hw]
    exact wpAny_of_vAny hok k _ _ h Hi.2 _ _ (by rw [size_put,h1]) (by cases o.dst <;> exact h2) (by rw [env_put a _ _ hd,h3]) h4
def qYields (P:Program) (T:World) (ops:Array Oper) (S:Hp→Prop) (o:Oper) (v:Value) (F:Env):Prop:=
 (wantedF ops o F=true∧∀ h,S h→vOp P T o (fun v' h'=>v'=v∧h'=h) F h)∨(wantedF ops o F=false∧v=undef)
theorem ev_updo {F:Env} {dst:Option Nat} {v:Value} {x:Operand} (hx:∀ d,dst=some d→x ≠ .tmp d):ev (updo F dst v) x=ev F x:=by
 cases dst with
 | none=>rfl
 | some d=>
  cases x with
  | tmp t=>
   have hne:t≠d:=fun e=>hx d rfl (by rw [e])
   show (if t=d then v else F t)=F t
   rw [if_neg hne]
  | _=>rfl
theorem execOp_updo {ops:Array Oper} (o:Oper) (hs:∀ cs b,o.op ≠ .select cs b) (F:Env) (dst:Option Nat) (v:Value) (h:∀ d,dst=some d→d ∉ o.looksAt ops) :
  execOp (ev (updo F dst v)) o=execOp (ev F) o:=
 execOp_congr o hs fun x hx=>ev_updo fun d hd hxd=>h d hd (by
  subst hxd
  exact List.mem_append_left _ (List.mem_filterMap.2 ⟨.tmp d,by simpa using hx,rfl⟩))
theorem wantedF_updo {ops:Array Oper} (o:Oper) (F:Env) (dst:Option Nat) (v:Value) (h:∀ d,dst=some d→d ∉ o.looksAt ops) :
  wantedF ops o (updo F dst v)=wantedF ops o F:=by
 cases dst with
 | none=>rfl
 | some d=>
  unfold wantedF Region.wanted
  cases hg:o.guard with
  | none=>rfl
  | some gw=>
   obtain ⟨g,want⟩:=gw
   simp only
   have hd:=h d rfl
   unfold Oper.looksAt at hd
   rw [hg] at hd
   simp only [List.mem_append,not_or] at hd
   have:yieldedF ops (updo F (some d) v) g=yieldedF ops F g:=by
    unfold yieldedF
    cases hb:(ops[g]?).bind (·.dst) with
    | none=>rfl
    | some t=>
     have hne:t≠d:=fun e=>hd.2 (by rw [hb,e]; simp)
     show (match (if t=d then v else F t) with | .bool b=>some b | _=>none)=_
     rw [if_neg hne]
   rw [this]
theorem updo_comm (F:Env) {d d':Option Nat} (v v':Value) (h:∀ x,d=some x→d'≠some x):updo (updo F d v) d' v'=updo (updo F d' v') d v:=by
 cases d with
 | none=>rfl
 | some x=>
  cases d' with
  | none=>rfl
  | some y=>
   have hne:y≠x:=fun e=>h x rfl (by rw [e])
   funext t
   simp only [updo,upd]
   by_cases h1:t=y
   ·subst h1; rw [if_pos rfl,if_neg hne,if_pos rfl]
   ·rw [if_neg h1]
    by_cases h2:t=x
    ·rw [if_pos h2,if_pos h2]
    ·rw [if_neg h2,if_neg h2,if_neg h1]
theorem qYields.put {ops:Array Oper} {S:Hp→Prop} {o:Oper} (hs:∀ cs b,o.op ≠ .select cs b) {v:Value} {F:Env} (hy:qYields P T ops S o v F) {dst:Option Nat} {u:Value}
  (h:∀ d,dst=some d→d ∉ o.looksAt ops):qYields P T ops S o v (updo F dst u):=by
 unfold qYields vOp at *
 rw [wantedF_updo o F dst u h,execOp_updo o hs F dst u h]
 exact hy
theorem qYields.opI {ops:Array Oper} {S:Hp→Prop} {i:Nat} {o:Oper} {v:Value} {F:Env} {h:Hp} (hi:ops[i]? = some o) (hy:qYields P T ops S o v F) (hS:S h)
  {K:Env→Hp→Prop} (H:K (updo F o.dst v) h):vOpI P T ops i K F h:=by
 unfold vOpI
 rw [hi]
 rcases hy with ⟨hw,hv⟩ | ⟨hw,rfl⟩
 ·simp only [hw,if_true]
  exact vOp_mono (fun v' h' ⟨e1,e2⟩=>by subst e1; subst e2; exact H) (hv h hS)
 ·simp only [hw,Bool.false_eq_true,if_false]; exact H
theorem vOpI_put {ops:Array Oper} {S:Hp→Prop} {j:Nat} {oi oj:Oper} {v:Value} (hj:ops[j]? = some oj) (hap:oi.apart ops oj=true)
  (hsi:∀ cs b,oi.op ≠ .select cs b) (hsj:∀ cs b,oj.op ≠ .select cs b) {K:Env→Hp→Prop} {F:Env} {h:Hp} (hy:qYields P T ops S oi v F)
  (H:vOpI P T ops j K (updo F oi.dst v) h):vOpI P T ops j (fun F' h'=>qYields P T ops S oi v F'∧K (updo F' oi.dst v) h') F h:=by
 obtain ⟨h1,h2,h3⟩:=Oper.apart_spec hap
 unfold vOpI at *
 rw [hj] at *
 simp only at *
 rw [wantedF_updo oj F oi.dst v h1] at H
 split at H
 ·rename_i hw
  rw [if_pos hw]
  unfold vOp at *
  rw [execOp_updo oj hsj F oi.dst v h1] at H
  refine hw_mono (vNext_mono fun u h' q=>?_) _ _ H
  exact ⟨hy.put hsi h3,by rw [← updo_comm F v u h2]; exact q⟩
 ·rename_i hw
  rw [if_neg hw]
  exact ⟨hy.put hsi h3,by rw [← updo_comm F v undef h2]; exact H⟩
theorem vAny_first {ops:Array Oper} {S:Hp→Prop} {i:Nat} {oi:Oper} {v:Value} (hi:ops[i]? = some oi) (hsel:∀ (j:Nat) (o:Oper) cs b,ops[j]? = some o→o.op ≠ .select cs b) :
  ∀ (k:Nat) (listed:Array Bool) (F:Env) (h:Hp),
   (∀ j oj,ops[j]? = some oj→j≠i→listed.getD j true=false→(∀ e∈oj.after,Region.binds .any e=true→e.on≠i)→oi.apart ops oj=true) →
   i∈Region.ready .any ops listed→qYields P T ops S oi v F→S h →
   vAny P T ops S N k (listed.setIfInBounds i true) (updo F oi.dst v) h→vAny P T ops S N (k+1) listed F h:=by
 intro k
 induction k with
 | zero=>
  intro listed F h _ hr hy hS H
  refine ⟨fun h=>(by rw [h] at hr; cases hr),fun j hj=>?_⟩
  by_cases hji:j=i
  ·subst hji; exact hy.opI hi hS ⟨hS,H⟩
  ·have:=ready_mono hj hji
   rw [H.1] at this
   cases this
 | succ k ih=>
  intro listed F h hfree hr hy hS H
  refine ⟨fun h=>(by rw [h] at hr; cases hr),fun j hj=>?_⟩
  by_cases hji:j=i
  ·subst hji; exact hy.opI hi hS ⟨hS,H⟩
  ·have h1:=H.2 j (ready_mono hj hji)
   obtain ⟨hjun,oj,hoj,hall⟩:=mem_ready.1 hj
   have hnot:∀ e∈oj.after,Region.binds .any e=true→e.on≠i:=fun e he hb heq=>by
    have h1:=hall e he hb
    have h0:=(mem_ready.1 hr).1
    rw [heq] at h1
    rcases Nat.lt_or_ge i listed.size with h' | h'
    ·simp [h'] at h0 h1; rw [h0] at h1; cases h1
    ·simp [Array.getElem?_eq_none h'] at h1
   have h2:=vOpI_put hoj (hfree j oj hoj hji hjun hnot) (fun cs b=>hsel i oi cs b hi) (fun cs b=>hsel j oj cs b hoj) hy h1
   have hfree':∀ k ok,ops[k]? = some ok→k≠i→(listed.setIfInBounds j true).getD k true=false →
     (∀ e∈ok.after,Region.binds .any e=true→e.on≠i)→oi.apart ops ok=true:=fun k ok hk hki hun hno=>by
    refine hfree k ok hk hki ?_ hno
    by_cases hjk:j=k
    ·subst hjk; exact hjun
    ·rw [getD_set_ne true hjk] at hun; exact hun
   refine vOpI_mono (fun F' h' h3=>⟨h3.2.1,ih (listed.setIfInBounds j true) F' h' hfree' (ready_mono hr (Ne.symm hji)) h3.1 h3.2.1 ?_⟩) h2
   rw [Array.setIfInBounds_comm _ _ hji]
   exact h3.2.2
def vHeld (P:Program) (T:World) (ops:Array Oper) (S:Hp→Prop) (N:Env→Hp→Prop):List (Nat × Bool × Oper)→Env→Hp→Prop
 | [],F,h=>N F h
 | (_,q,o) :: l,F,h=>
  if wantedF ops o F then
   if q then ∃ v,(∀ h',S h'→vOp P T o (fun v' h''=>v'=v∧h''=h') F h')∧vHeld P T ops S N l (updo F o.dst v) h
   else vOp P T o (fun v h'=>S h'∧vHeld P T ops S N l (updo F o.dst v) h') F h
  else vHeld P T ops S N l (updo F o.dst undef) h
def picked (ops:Array Oper) (l:List (Nat × Bool)):List (Nat × Bool × Oper):=l.map fun (i,q)=>(i,q,ops.getD i default)
def heldOk (ops:Array Oper):List (Nat × Bool)→Array Bool→Bool
 | [],listed=>(Region.ready .any ops listed).isEmpty
 | (i,q) :: l,listed=>
  (if q then (Region.ready .any ops listed).contains i && Region.free .any ops listed i else (Region.ready .any ops listed == [i])) && heldOk ops l (listed.setIfInBounds i true)
theorem vAny_of_vHeld {ops:Array Oper} {S:Hp→Prop} (hs:Region.noSelect ops=true):∀ (l:List (Nat × Bool)) (listed:Array Bool) (F:Env) (h:Hp),heldOk ops l listed=true→S h →
  vHeld P T ops S N (picked ops l) F h→vAny P T ops S N l.length listed F h
 | [],listed,F,h,hB,_,H=>⟨by simpa [heldOk] using hB,H⟩
 | (i,q) :: l,listed,F,h,hB,hS,H=>by
  simp only [heldOk,Bool.and_eq_true] at hB
  obtain ⟨hB1,hB2⟩:=hB
  have hri:i∈Region.ready .any ops listed:=by
   cases q
   ·simp only [Bool.false_eq_true,if_false,beq_iff_eq] at hB1; rw [hB1]; simp
   ·simp only [if_true,Bool.and_eq_true] at hB1; simpa using hB1.1
  obtain ⟨_,o,ho,_⟩:=mem_ready.1 hri
  have hp:picked ops ((i,q) :: l)=(i,q,o) :: picked ops l:=by simp [picked,ho]
  rw [hp] at H
  simp only [vHeld] at H
  cases q with
  | true=>
   simp only [if_true,Bool.and_eq_true] at hB1 H
   split at H
   ·rename_i hw
    obtain ⟨v,hv,H⟩:=H
    exact vAny_first ho (Region.noSelect_spec hs) l.length listed F h (Region.free_spec ho hB1.2) hri (.inl ⟨hw,hv⟩) hS (vAny_of_vHeld hs l _ _ _ hB2 hS H)
   ·rename_i hw
    exact vAny_first ho (Region.noSelect_spec hs) l.length listed F h (Region.free_spec ho hB1.2) hri (.inr ⟨by simpa using hw,rfl⟩) hS (vAny_of_vHeld hs l _ _ _ hB2 hS H)
  | false=>
   simp only [Bool.false_eq_true,if_false,beq_iff_eq] at hB1 H
   refine ⟨fun h0=>(by rw [h0] at hri; cases hri),fun j hj=>?_⟩
   rw [hB1] at hj
   have hj:j=i:=by simpa using hj
   subst hj
   unfold vOpI
   rw [ho]
   simp only
   split at H
   ·rename_i hw
    rw [if_pos hw]
    exact vOp_mono (fun v h' q=>⟨q.1,vAny_of_vHeld hs l _ _ _ hB2 q.1 q.2⟩) H
   ·rename_i hw
    rw [if_neg hw]
    exact ⟨hS,vAny_of_vHeld hs l _ _ _ hB2 hS H⟩
def regionOk (n:Nat) (ops:Array Oper) (l:List (Nat × Bool)):Bool:=
 opsOk n ops && (Region.noSelect ops && (heldOk ops l (Array.replicate ops.size false) && Nat.beq l.length ops.size))
theorem VS.held {id:Nat} {ops:Array Oper} (S:Hp→Prop) (l:List (Nat × Bool)) (hm:P.follows .mixedOrders=true) (hok:regionOk n ops l=true) (hS:S h)
  (H:vHeld P T ops S N (picked ops l) F h):VS P n T (.region id ops true) N X R F h:=by
 intro a w h1 h2 h3 h4
 simp only [regionOk,Bool.and_eq_true] at hok
 obtain ⟨k1,k2,k3,k4⟩:=hok
 refine wp_region_any hm ?_
 have hl:l.length=ops.size:=Nat.eq_of_beq_eq_true k4
 rw [← hl]
 refine wpAny_of_vAny k1 _ _ F h (vAny_of_vHeld k2 l _ F h (by rw [hl]; exact k3) hS H) a _ h1 h2 h3 ⟨h4.heap,h4.tape,h4.os,h4.output⟩
theorem VS.quiet {id:Nat} {ops:Array Oper} (hm:P.follows .mixedOrders=true) (hok:regionOk n ops ((List.range ops.size).map fun i=>(i,true))=true)
  (H:vHeld P T ops (fun h'=>h'=h) N (picked ops ((List.range ops.size).map fun i=>(i,true))) F h):VS P n T (.region id ops true) N X R F h:=
 VS.held (fun h'=>h'=h) _ hm hok rfl H
def hr {α:Type} (P:Program):Sem α→Hp→Option α
 | .pure a,_=>some a
 | .load _ a k,h=>(hc h a).bind fun v=>hr P (k v) h
 | .shape r k,h=>hr P (k (hshape h r)) h
 | .frozen a k,h=>hr P (k (hfr h a)) h
 | .program k,h=>hr P (k P) h
 | _,_=>none
theorem hr_sound {α:Type} {P:Program} {T:World}:∀ (s:Sem α) (h:Hp) (a:α),hr P s h=some a→∀ w,Sees T w h→s.run P w=.ok a w:=by
 intro s
 induction s with
 | pure a=>intro h b H w hs; simp only [hr,Option.some.injEq] at H; rw [H]; rfl
 | load m a k ih=>
  intro h b H w hs
  simp only [hr] at H
  cases hv:hc h a with
  | none=>rw [hv] at H; cases H
  | some v=>
   rw [hv] at H
   have:w.cell? a=some v:=by rw [World.cell?,hs.heap]; exact hv
   rw [Sem.run,this]; exact ih v h b H w hs
 | shape r k ih=>
  intro h b H w hs
  have:w.shape? r=hshape h r:=by rw [World.shape?,hs.heap]; rfl
  rw [Sem.run,this]; exact ih _ h b H w hs
 | frozen a k ih=>
  intro h b H w hs
  have:w.frozen? a=hfr h a:=by rw [World.frozen?,hs.heap]; rfl
  rw [Sem.run,this]; exact ih _ h b H w hs
 | program k ih=>intro h b H w hs; rw [Sem.run]; exact ih _ h b H w hs
 | _=>intro h b H; cases H
theorem hr_bind {α β:Type} {P:Program} (s:Sem α) (f:α→Sem β):∀ h,hr P (s >>= f) h=(hr P s h).bind fun a=>hr P (f a) h:=by
 show ∀ h,hr P (s.bind f) h=_
 induction s with
 | load m a k ih=>intro h; simp only [Sem.bind,hr,ih]; cases hc h a <;> rfl
 | shape r k ih=>intro h; simp only [Sem.bind,hr,ih]
 | frozen a k ih=>intro h; simp only [Sem.bind,hr,ih]
 | program k ih=>intro h; simp only [Sem.bind,hr,ih]
 | _=>intro h; rfl
def readVar (P:Program) (t:TypeId) (v:Value) (h:Hp):Option Value:=
 match v with
 | .pointer (some a)=>hr P (loadVar t a) h
 | _=>none
def resVals (P:Program) (F:Env) (h:Hp):List ResultVar→Option (List Value)
 | []=>some []
 | .tmp t :: l=>(resVals P F h l).map (F t :: ·)
 | .cell a t :: l=>(readVar P t (F a) h).bind fun v=>(resVals P F h l).map (v :: ·)
def resOne:List Value→Value
 | [v]=>v
 | l=>.tuple l.toArray
def resH (P:Program) (l:List ResultVar) (F:Env) (Q:Value→Hp→Prop) (h:Hp):Prop:=
 match resVals P F h l with
 | some vs=>Q (resOne vs) h
 | none=>False
def resF (F:Env):ResultVar→Sem Value
 | .tmp t=>pure (F t)
 | .cell a t=>do loadVar t (← asAddr (F a))
theorem resF_read {F:Env} {h:Hp}:∀ (l:List ResultVar) (vs:List Value),resVals P F h l=some vs→hr P (l.mapM (resF F)) h=some vs:=by
 intro l
 induction l with
 | nil=>intro vs H; simp only [resVals,Option.some.injEq] at H; subst H; rfl
 | cons x l ih=>
  intro vs H
  rw [List.mapM_cons,hr_bind]
  cases x with
  | tmp t=>
   simp only [resVals] at H
   cases hl:resVals P F h l with
   | none=>rw [hl] at H; cases H
   | some us=>
    rw [hl] at H
    simp only [Option.map_some,Option.some.injEq] at H
    subst H
    show (some (F t)).bind _=_
    rw [Option.bind_some,hr_bind,ih us hl]; rfl
  | cell a t=>
   simp only [resVals] at H
   cases hv:readVar P t (F a) h with
   | none=>rw [hv] at H; cases H
   | some v=>
    rw [hv] at H
    cases hl:resVals P F h l with
    | none=>rw [hl] at H; cases H
    | some us=>
     rw [hl] at H
     simp only [Option.bind_some,Option.map_some,Option.some.injEq] at H
     subst H
     have e:hr P (resF F (.cell a t)) h=some v:=by
      show hr P (asAddr (F a) >>= fun b=>loadVar t b) h=some v
      unfold readVar at hv
      split at hv
      ·rename_i b hb
       rw [hb,hr_bind]; exact hv
      ·cases hv
     rw [e,Option.bind_some,hr_bind,ih us hl]; rfl
theorem results_run {fn:Func} {l:List ResultVar} (hl:fn.results=l.toArray) {a:Act} {h:Hp} {vs:List Value} (H:resVals P (env a) h l=some vs) {w:World} (hs:Sees T w h) :
  (results fn a.tmps).run P w=.ok (resOne vs) w:=by
 have e:results fn a.tmps=(do let us ← fn.results.mapM (resF (env a)); pure (if h:us.size=1 then us[0] else .tuple us)):=by
  have e1:(fun x:ResultVar=>match x with | .tmp t=>(pure (a.tmps.getD t undef):Sem Value) | .cell x t=>do loadVar t (← asAddr (a.tmps.getD x undef)))=resF (env a):=by
   funext x
   cases x <;> rfl
  rw [← e1]
  rfl
 rw [e,hl]
 refine hr_sound (T:=T) _ h _ ?_ w hs
 rw [hr_bind,List.mapM_toArray,map_eq_pure_bind,hr_bind,resF_read l vs H]
 show some _=_
 congr 1
 match vs with
 | []=>rfl
 | [v]=>rfl
 | v :: u :: l=>simp [resOne]
end
theorem env_start (args:Array Value) (k:Nat):env { tmps:=args++Array.replicate k undef,defers:=[] } = envL args.toList 0:=by
 have key:∀ (l:List Value) (j t:Nat),envL l j t=if j≤t then (l[t - j]?).getD undef else undef:=by
  intro l
  induction l with
  | nil=>intro j t; simp [envL]
  | cons v l ih=>
   intro j t
   simp only [envL,upd]
   by_cases h:t=j
   ·subst h; simp
   ·rw [if_neg h,ih]
    by_cases h':j≤t
    ·have e:t - j=(t - (j+1))+1:=by omega
     rw [if_pos (by omega),if_pos h',e]; simp
    ·rw [if_neg (by omega),if_neg h']
 funext t
 rw [key]
 simp only [env,Nat.zero_le,if_true,Nat.sub_zero,Array.getD_eq_getD_getElem?,Array.getElem?_append,Array.getElem?_toList]
 by_cases h:t<args.size
 ·rw [if_pos h]
 ·rw [if_neg h,Array.getElem?_eq_none (by omega:args.size≤t)]
  by_cases h2:t - args.size<k
  ·simp [h2]
  ·simp [h2]
theorem CallsH.of_body {P:Program} {T:World} {f:FuncId} {fn:Func} {c:Code} {l:List ResultVar} {args:Array Value} {h:Hp} {Q:Value→Hp→Prop} (hf:P.funcs[f]? = some fn) (hb:fn.body=some c)
  (hl:fn.results=l.toArray) (hn:Nat.ble args.size fn.ntmps=true)
  (H:VS P fn.ntmps T c (fun F h'=>resH P l F Q h') (fun _ _ _=>False) (fun F h'=>resH P l F Q h') (envL args.toList 0) h) :
  CallsH P T f args h Q:=by
 intro w hs
 refine calls_of_wp hf hb (Code.wp_mono (fun e a w hp=>?_) (H _ w ?_ rfl (env_start _ _) hs))
 ·obtain ⟨q1,q2,h',q3,q4⟩:=hp
  have key:resH P l (env a) Q h'→∃ v,(results fn a.tmps).run P w=.ok v w∧∃ v' h'',Ending.returned v=.returned v'∧Sees T w h''∧Q v' h'':=by
   intro hr
   unfold resH at hr
   split at hr
   ·rename_i vs hvs
    exact ⟨_,results_run hl hvs q3,_,h',rfl,q3,hr⟩
   ·exact hr.elim
  cases e with
  | normal=>exact ⟨q2,key q4⟩
  | ret=>exact ⟨q2,key q4⟩
  | _=>exact q4.elim
 ·have:=Nat.le_of_ble_eq_true hn
  simp only [Array.size_append,Array.size_replicate]; omega
set_option linter.unusedSimpArgs false
set_option linter.unusedVariables false
def tz (P:Program) (t:TypeId):Option (List Value):=((P.info? t).bind (·.zero)).map fun v=>v.cells.toList
def tn (P:Program) (t:TypeId):Option Nat:=(P.info? t).map (·.size)
def tb (P:Program) (t:TypeId):Option Nat:=(P.info? t).map (·.bytes)
def ta (P:Program) (t:TypeId):Option Bool:=(P.underlying t).map fun | .struct _=>true | .array _ _=>true | _=>false
def tf (P:Program) (t:TypeId) (i:Nat):Option Nat:=
 match P.underlying t with
 | some (.struct fs)=>(fs[i]?).bind fun f=>match tn P f.type with
  | some (_+1)=>some f.offset
  | _=>none
 | _=>none
def tarr (P:Program) (t:TypeId):Option (Nat × TypeId):=match P.underlying t with | some (.array n e)=>some (n,e) | _=>none
def tsl (P:Program) (t:TypeId):Option TypeId:=match P.underlying t with | some (.slice e)=>some e | _=>none
def tpl (P:Program) (t:TypeId):Option (List (Nat × Nat)):=match P.underlying t with | some (.struct fs)=>fs.toList.mapM (fun f=>(tn P f.type).map fun n=>(f.offset,n)) | _=>none
def tfl (P:Program) (t:TypeId) (i:Nat):Option (Nat × TypeId):=match P.underlying t with | some (.struct fs)=>(fs[i]?).map fun f=>(f.offset,f.type) | _=>none
def tstr (P:Program) (t:TypeId):Bool:=match P.underlying t with | some .string=>true | _=>false
def tint (P:Program) (t:TypeId):Option IntKind:=match P.underlying t with | some (.int k)=>some k | _=>none
def goes (P:Program) (f:FuncId):Bool:=match P.funcs[f]? with | some fn=>!(fn.name == "runtime.NumGoroutine") && fn.body.isSome | none=>false
def cl:Value→List Value
 | .agg cs=>cs.toList
 | v=>[v]
theorem cl_cells (v:Value):(cl v).toArray=v.cells:=by cases v <;> rfl
section
variable (P:Program) (T:World)
def vPick (c a b:Value) (K:Value→Hp→Prop) (h:Hp):Prop:=
 match c with | .bool t=>K (if t then a else b) h | _=>False
def vNew (z:Option (List Value)) (t:TypeId) (K:Value→Hp→Prop) (h:Hp):Prop:=
 match z with | some l=>K (.pointer (some ⟨h.size,0,none⟩)) (h.push (.cells l.toArray t)) | none=>False
def rd (h:Hp) (a:Addr) (n:Nat):Option (List Value):=
 match h[a.block]? with
 | some (.cells c _ _)=>if a.spot=none∧a.off+n≤c.size then some ((c.toList.drop a.off).take n) else none
 | _=>none
def vRd1 (x:Option Value) (K:Value→Hp→Prop) (h:Hp):Prop:=match x with | some v=>K v h | none=>False
def vRdN (x:Option (List Value)) (K:Value→Hp→Prop) (h:Hp):Prop:=match x with | some l=>K (.agg l.toArray) h | none=>False
def vLoad (s:Option Bool) (n:Option Nat) (p:Value) (K:Value→Hp→Prop) (h:Hp):Prop:=
 match p with
 | .pointer (some a)=>match s,n with
  | some false,_=>vRd1 (hc h a) K h
  | some true,some n=>vRdN (rd h a n) K h
  | _,_=>False
 | _=>False
def lput:List Value→Nat→List Value→List Value
 | l,_,[]=>l
 | [],_,_ :: _=>[]
 | _ :: l,0,v :: vs=>v :: lput l 0 vs
 | x :: l,n+1,v :: vs=>x :: lput l n (v :: vs)
def wr (h:Hp) (a:Addr) (vs:List Value):Option Hp:=
 match h[a.block]? with
 | some (.cells c e (lo,hi))=>if a.spot=none∧a.off+vs.length≤c.size∧hi≤lo∧vs.all oneC=true then some (h.setIfInBounds a.block (.cells (lput c.toList a.off vs).toArray e (lo,hi))) else none
 | _=>none
def wr1 (h:Hp) (a:Addr) (v:Value):Option Hp:=
 match h[a.block]? with
 | some (.cells c e (lo,hi))=>if a.spot=none∧a.off<c.size∧hi≤lo∧oneC v=true then some (h.setIfInBounds a.block (.cells (c.setIfInBounds a.off v) e (lo,hi))) else none
 | _=>none
def vWr (x:Option Hp) (K:Value→Hp→Prop):Prop:=match x with | some h'=>K undef h' | none=>False
def vStore (n:Option Nat) (p v:Value) (K:Value→Hp→Prop) (h:Hp):Prop:=
 match p,n with
 | .pointer (some a),some n=>
  if n=(cl v).length then
   match v with
   | .agg cs=>vWr (wr h a cs.toList) K
   | v=>vWr (wr1 h a v) K
  else False
 | _,_=>False
def vField (f:Option Nat) (p:Value) (K:Value→Hp→Prop) (h:Hp):Prop:=
 match f,p with
 | some o,.pointer (some a)=>K (.pointer (some (a.add o))) h
 | _,_=>False
def vBin (op:BinOp) (t:TypeId) (x y:Operand) (a b:Value) (K:Value→Hp→Prop) (h:Hp):Prop:=
 hw P (do eqGuard op t x y a b; binOp op t a b) K h
def vUn (op:UnOp) (a:Value) (K:Value→Hp→Prop) (h:Hp):Prop:=hw P (Op.unary op a) K h
def vConv (src dst:TypeId) (a:Value) (K:Value→Hp→Prop) (h:Hp):Prop:=hw P (convert src dst a) K h
def vIx (arr:Option (Nat × TypeId)) (sl:Option TypeId) (n:TypeId→Option Nat) (p i:Value) (K:Value→Hp→Prop) (h:Hp):Prop:=
 match i with
 | .int _ i=>(match arr,sl,p with
  | some (len,e),none,.pointer (some a)=>(match n e with
   | some n=>if 0≤i∧i<(len:Int) then K (.pointer (some (a.add (i.toNat*n)))) h else False
   | none=>False)
  | none,some e,.slice (some a) len _=>(match n e with
   | some n=>if 0≤i∧i<(len:Int) then K (.pointer (some (a.add (i.toNat*n)))) h else False
   | none=>False)
  | _,_,_=>False)
 | _=>False
def vExtract (v:Value) (i:Nat) (K:Value→Hp→Prop) (h:Hp):Prop:=
 match v with | .tuple vs=>vRd1 (vs[i]?) K h | _=>False
def vNil (v:Value) (K:Value→Hp→Prop) (h:Hp):Prop:=
 match v with | .pointer (some a)=>K (.pointer (some a)) h | .func (.func f) x y=>K (.func (.func f) x y) h | _=>False
def vCall (f:Value) (args:List Value) (K:Value→Hp→Prop) (h:Hp):Prop:=
 match f with
 | .func (.func f) first captured=>if goes P f=true then CallsH P T f (first.toList++args++captured.toList).toArray h K
  else hw P (callFunc f (first.toList++args++captured.toList).toArray) (vNext P T K) h
 | _=>False
def vBi (b:Builtin) (ts:Array TypeId) (ty:TypeId) (cs:Array Bool) (args:List Value) (K:Value→Hp→Prop) (h:Hp):Prop:=
 hw P (builtin b ts ty cs args.toArray) (vNext P T K) h
def evL (F:Env):List Operand→List Value
 | []=>[]
 | x :: l=>ev F x :: evL F l
theorem evL_map (F:Env) (l:List Operand):evL F l=l.map (ev F):=by induction l with | nil=>rfl | cons x l ih=>simp [evL,ih]
def nth {α:Type}:List α→Nat→Option α
 | [],_=>none
 | x :: _,0=>some x
 | _ :: l,n+1=>nth l n
def arrPl (n:Nat) (i:Nat):Option (Nat × Nat):=some (i*n,n)
def fillL (place:Nat→Option (Nat × Nat)):List Value→List (Nat × Value)→Option (List Value)
 | cs,[]=>some cs
 | cs,(i,v) :: l=>match place i with
  | some (o,s)=>if (cl v).length=s∧o+s≤cs.length then fillL place (lput cs o (cl v)) l else none
  | none=>none
def evP (F:Env):List (Nat × Operand)→List (Nat × Value)
 | []=>[]
 | (i,x) :: l=>(i,ev F x) :: evP F l
def vBuildA (n:Option Nat) (z:List Value) (parts:List (Nat × Value)) (K:Value→Hp→Prop) (h:Hp):Prop:=
 match n with | some n=>vRdN (fillL (arrPl n) z parts) K h | none=>False
def vBuild (z:Option (List Value)) (pl:Option (List (Nat × Nat))) (arr:Option (Nat × TypeId)) (n:TypeId→Option Nat) (parts:List (Nat × Value)) (K:Value→Hp→Prop) (h:Hp):Prop:=
 match z,pl,arr with
 | some z,some pl,none=>vRdN (fillL (nth pl) z parts) K h
 | some z,none,some (_,e)=>vBuildA (n e) z parts K h
 | _,_,_=>False
def zrep:Nat→List Value→List Value
 | 0,_=>[]
 | n+1,z=>z++zrep n z
def seqV:Nat→List (Nat × Value)→Option (List Value)
 | _,[]=>some []
 | k,(i,v) :: l=>if i=k∧oneC v=true then (seqV (k+1) l).map (v :: ·) else none
def vMade (e:TypeId) (len:Nat) (x:Option (List Value)) (K:Value→Hp→Prop) (h:Hp):Prop:=
 match x with | some l=>K (.slice (some ⟨h.size,0,none⟩) len len) (h.push (.cells l.toArray e)) | none=>False
def slCells (n len:Nat) (z:List Value) (parts:List (Nat × Value)):Option (List Value):=
 if n=1∧parts.length=len then seqV 0 parts else fillL (arrPl n) (zrep len z) parts
def vBuildSlA (e:TypeId) (n:Option Nat) (z:Option (List Value)) (len:Nat) (parts:List (Nat × Value)) (K:Value→Hp→Prop) (h:Hp):Prop:=
 match n,z with
 | some n,some z=>if z.length=n∧len*n≤16777216 then vMade e len (slCells n len z parts) K h else False
 | _,_=>False
def vBuildSl (e:Option TypeId) (n:TypeId→Option Nat) (z:TypeId→Option (List Value)) (len:Nat) (parts:List (Nat × Value)) (K:Value→Hp→Prop) (h:Hp):Prop:=
 match e with
 | some e=>vBuildSlA e (n e) (z e) len parts K h
 | none=>False
def vPart (a:Option Bool) (n:Option Nat) (cs:List Value) (o:Nat) (K:Value→Hp→Prop) (h:Hp):Prop:=
 match a,n with
 | some true,some n=>K (.agg ((cs.drop o).take n).toArray) h
 | some false,_=>vRd1 (nth cs o) K h
 | _,_=>False
def vFld (f:Option (Nat × TypeId)) (a:TypeId→Option Bool) (n:TypeId→Option Nat) (x:Value) (K:Value→Hp→Prop) (h:Hp):Prop:=
 match f,x with
 | some (o,t),.agg cs=>vPart (a t) (n t) cs.toList o K h
 | _,_=>False
def vIdxA (m:Option Nat) (a:Option Bool) (len:Nat) (cs:List Value) (i:Int) (K:Value→Hp→Prop) (h:Hp):Prop:=
 match m with | some m=>if 0≤i∧i<(len:Int) then vPart a (some m) cs (i.toNat*m) K h else False | none=>False
def vIdx (arr:Option (Nat × TypeId)) (str:Bool) (a:TypeId→Option Bool) (n:TypeId→Option Nat) (x i:Value) (K:Value→Hp→Prop) (h:Hp):Prop:=
 match i with
 | .int _ i=>(match arr,str,x with
  | some (len,e),false,.agg cs=>vIdxA (n e) (a e) len cs.toList i K h
  | none,true,.string s=>if 0≤i∧i<(s.size:Int) then K (.int .u8 ((s.data.toList.getD i.toNat 0).toNat:Nat)) h else False
  | _,_,_=>False)
 | _=>False
def sb (x:Option Value) (d y:Nat):Option Nat:=
 match x with
 | none=>some d
 | some (.int _ i)=>if 0≤i∧i≤(y:Int) then some i.toNat else none
 | _=>none
def evO (F:Env):Option Operand→Option Value
 | none=>none
 | some x=>some (ev F x)
def vSlcS (n:Option Nat) (a:Option Addr) (len cap:Nat) (lo hi:Option Value) (K:Value→Hp→Prop) (h:Hp):Prop:=
 match n,sb hi len cap with
 | some n,some b=>(match sb lo 0 b with
  | some l=>K (.slice (if cap=l then a else a.map (·.add (l*n))) (b - l) (cap - l)) h
  | none=>False)
 | _,_=>False
def vSlc (arr:Option (Nat × TypeId)) (sl:Option TypeId) (str:Bool) (n:TypeId→Option Nat) (x:Value) (lo hi mx:Option Value) (K:Value→Hp→Prop) (h:Hp):Prop:=
 match mx,x,arr,sl,str with
 | some mv,.slice a len cap,none,some e,_=>(match hi,sb (some mv) 0 cap with
  | some hv,some m=>vSlcS (n e) a len m lo (some hv) K h
  | _,_=>False)
 | none,.slice a len cap,none,some e,_=>vSlcS (n e) a len cap lo hi K h
 | none,.pointer (some a),some (len,e),none,_=>vSlcS (n e) (some a) len len lo hi K h
 | none,.string s,none,none,true=>(match sb hi s.size s.size with
  | some b=>(match sb lo 0 b with | some l=>K (.string (s.extract l b)) h | none=>False)
  | none=>False)
 | _,_,_,_,_=>False
def vMkA (e:TypeId) (n:Option Nat) (by':Option Nat) (z:Option (List Value)) (l c:Int) (K:Value→Hp→Prop) (h:Hp):Prop:=
 match n,by',z with
 | some n,some bytes,some z=>if z.length=n∧0≤l∧l≤c∧c≤9223372036854775807∧(bytes:Int)*c≤281474976710656 then K (.slice (some ⟨h.size,0,none⟩) l.toNat c.toNat) (h.push (.cells (zrep c.toNat z).toArray e)) else False
 | _,_,_=>False
def vMk (e:Option TypeId) (n by':TypeId→Option Nat) (z:TypeId→Option (List Value)) (l c:Value) (K:Value→Hp→Prop) (h:Hp):Prop:=
 match e,l,c with
 | some e,.int _ l,.int _ c=>vMkA e (n e) (by' e) (z e) l c K h
 | _,_,_=>False
def vDo (op:Op) (ty:TypeId) (K:Value→Hp→Prop) (F:Env) (h:Hp):Prop:=
 match op with
 | .move x | .assign x=>K (ev F x) h
 | .pick c a b=>vPick (ev F c) (ev F a) (ev F b) K h
 | .alloc e=>vNew (tz P e) e K h
 | .box e x=>vNew (some (cl (ev F x))) e K h
 | .load t a=>vLoad (ta P t) (tn P t) (ev F a) K h
 | .store t a x=>vStore (tn P t) (ev F a) (ev F x) K h
 | .fieldAddr t x i=>vField (tf P t i) (ev F x) K h
 | .indexAddr t x i=>vIx (tarr P t) (tsl P t) (tn P) (ev F x) (ev F i) K h
 | .nilCheck x=>vNil (ev F x) K h
 | .binOp op t x y _=>vBin P op t x y (ev F x) (ev F y) K h
 | .unOp op _ x=>vUn P op (ev F x) K h
 | .convert s d x=>vConv P s d (ev F x) K h
 | .extract x i=>vExtract (ev F x) i K h
 | .makeFunc fn first captured=>K (.func fn (evL F first.toList).toArray (evL F captured.toList).toArray) h
 | .call ⟨.value f,args,_⟩=>vCall P T (ev F f) (evL F args.toList) K h
 | .call ⟨.builtin b,args,ts⟩=>vBi P T b ts ty (args.map fun | .const _=>true | _=>false) (evL F args.toList) K h
 | .build t parts=>vBuild (tz P t) (tpl P t) (tarr P t) (tn P) (evP F parts.toList) K h
 | .buildSlice t len parts=>vBuildSl (tsl P t) (tn P) (tz P) len (evP F parts.toList) K h
 | .field t x i=>vFld (tfl P t i) (ta P) (tn P) (ev F x) K h
 | .index t x i=>vIdx (tarr P t) (tstr P t) (ta P) (tn P) (ev F x) (ev F i) K h
 | .slice t x lo hi mx=>vSlc (tarr P t) (tsl P t) (tstr P t) (tn P) (ev F x) (evO F lo) (evO F hi) (evO F mx) K h
 | .makeSlice t l c=>vMk (tsl P t) (tn P) (tb P) (tz P) (ev F l) (ev F c) K h
 | op=>vOp P T ⟨none,op,ty, "", #[],none⟩ K F h
end
section
variable {P:Program} {T:World} {K:Value→Hp→Prop} {F:Env} {h:Hp} {ty:TypeId}
theorem hw_program {Q:Program→Hp→Prop}:hw P program Q h=Q P h:=rfl
theorem hw_pure {α:Type} {Q:α→Hp→Prop} (a:α):hw P (pure a) Q h=Q a h:=rfl
theorem run_info {t:TypeId} {d:TypeInfo} (hd:P.info? t=some d) {Q:TypeInfo→Hp→Prop}:hw P (typeInfo t) Q h=Q d h:=by
 simp only [typeInfo]; rw [hw_bind]; simp only [program,hw]; rw [hd]; rfl
theorem run_under {t:TypeId} {d:TypeDesc} (hd:P.underlying t=some d) {Q:TypeDesc→Hp→Prop}:hw P (underlying t) Q h=Q d h:=by
 simp only [underlying]; rw [hw_bind]; simp only [program,hw]; rw [hd]; rfl
theorem run_sizeOf {t:TypeId} {n:Nat} (hn:tn P t=some n) {Q:Nat→Hp→Prop}:hw P (sizeOf t) Q h=Q n h:=by
 unfold tn at hn
 cases hi:P.info? t with
 | none=>rw [hi] at hn; cases hn
 | some i=>
  rw [hi] at hn
  simp only [Option.map_some,Option.some.injEq] at hn
  subst hn
  unfold sizeOf
  rw [hw_bind,run_info hi]; rfl
theorem run_isAgg {t:TypeId} {b:Bool} (hb:ta P t=some b) {Q:Bool→Hp→Prop}:hw P (isAgg t) Q h=Q b h:=by
 unfold ta at hb
 cases hi:P.underlying t with
 | none=>rw [hi] at hb; cases hb
 | some d=>
  rw [hi] at hb
  simp only [Option.map_some,Option.some.injEq] at hb
  subst hb
  unfold isAgg
  rw [hw_bind,run_under hi]
  cases d <;> rfl
theorem addr_add (b o n:Nat):Addr.add ⟨b,o,none⟩ n=⟨b,o+n,none⟩:=by
 unfold Addr.add
 split
 ·rename_i h; subst h; rfl
 ·rfl
theorem addr_add' (a:Addr) (n:Nat) (ha:a.spot=none):a.add n=⟨a.block,a.off+n,none⟩:=by
 obtain ⟨b,o,s⟩:=a
 simp only at ha
 subst ha
 exact addr_add b o n
theorem run_loadCells (a:Addr) (c:List Value) {Q:Array Value→Hp→Prop}:∀ (n i:Nat) (acc:Array Value),
  (∀ j,j<n→hc h (a.add (i+j))=some (c.getD j undef))→n=c.length→Q (acc++c.toArray) h→hw P (loadCellsFrom a i n acc) Q h:=by
 induction c with
 | nil=>intro n i acc _ hn H; subst hn; simpa [loadCellsFrom,pure,hw] using H
 | cons v c ih=>
  intro n i acc hj hn H
  subst hn
  show hw P (load (a.add i) >>= fun v=>loadCellsFrom a (i+1) c.length (acc.push v)) Q h
  rw [hw_bind]
  refine ⟨v,by simpa using hj 0 (by simp),?_⟩
  refine ih _ (i+1) _ (fun j hjl=>?_) rfl ?_
  ·have:=hj (j+1) (by simp; omega)
   have e:i+(j+1)=i+1+j:=by omega
   rw [e] at this
   simpa using this
  ·simpa using H
theorem sound_load {t:TypeId} {v:Value} (H:vLoad (ta P t) (tn P t) v K h):hw P (Instr.loadAt t v) K h:=by
 unfold vLoad at H
 split at H
 ·rename_i a
  unfold Instr.loadAt
  rw [hw_bind]
  show hw P (loadVar t a) K h
  unfold loadVar
  rw [hw_bind]
  split at H
  ·rename_i hs
   rw [run_isAgg hs]
   unfold vRd1 at H
   split at H
   ·rename_i v hv; exact ⟨v,hv,H⟩
   ·exact H.elim
  ·rename_i n hs hn
   rw [run_isAgg hs]
   simp only [if_true]
   rw [hw_bind,run_sizeOf hn,hw_bind]
   unfold vRdN at H
   split at H
   ·rename_i l hl
    unfold rd at hl
    split at hl
    ·rename_i c e fr hb
     split at hl
     ·rename_i hcond
      obtain ⟨h1,h2⟩:=hcond
      simp only [Option.some.injEq] at hl
      subst hl
      have hlen:((c.toList.drop a.off).take n).length=n:=by simp; omega
      refine run_loadCells a _ n 0 #[] (fun j hj=>?_) hlen.symm (by simpa [hw_pure] using H)
      rw [addr_add' a _ h1]
      unfold hc
      rw [hb]
      simp only [Option.isSome_none,Bool.false_eq_true,if_false]
      rw [List.getD_eq_getElem?_getD,List.getElem?_take,if_pos hj,List.getElem?_drop]
      have e:a.off+(0+j)=a.off+j:=by omega
      rw [e]
      simp
      rw [Array.getElem?_eq_getElem (by omega)]; rfl
     ·cases hl
    ·cases hl
   ·exact H.elim
  ·exact H.elim
 ·exact H.elim
theorem run_store {a:Addr} {v:Value} {Q:Unit→Hp→Prop}:hw P (store a v) Q h=(oneC v=true∧(∃ u,hc h a=some u)∧hfr h a=false∧Q () (hset h a v)):=rfl
theorem hset_eq {a:Addr} {c:Array Value} {e:TypeId} {fr:Nat × Nat} (hb:h[a.block]? = some (.cells c e fr)) (hs:a.spot=none) (v:Value) :
  hset h a v=h.setIfInBounds a.block (.cells (c.setIfInBounds a.off v) e fr):=by
 obtain ⟨hlt,hget⟩:=Array.getElem?_eq_some_iff.1 hb
 unfold hset
 apply Array.ext_getElem?
 intro i
 rw [Array.getElem?_modify,Array.getElem?_setIfInBounds]
 by_cases hi:a.block=i
 ·subst hi
  simp [hget,hs,hlt]
 ·simp [hi]
theorem lput_set (l:List Value) (n:Nat) (v:Value) (vs:List Value):lput l n (v :: vs)=lput (l.set n v) (n+1) vs:=by
 induction l generalizing n with
 | nil=>cases vs <;> simp [lput]
 | cons x l ih=>
  cases n with
  | zero=>
   simp only [lput,List.set_cons_zero]
   cases vs with
   | nil=>simp [lput]
   | cons u us=>simp [lput]
  | succ n=>
   simp only [lput,List.set_cons_succ]
   rw [ih]
   cases vs with
   | nil=>simp [lput]
   | cons u us=>simp [lput]
theorem run_storeCells {a:Addr} {e:TypeId} {lo hi:Nat} {Q:Unit→Hp→Prop} (hs:a.spot=none) (hfr0:hi≤lo):∀ (vs:List Value) (i:Nat) (h:Hp) (c:Array Value),
  h[a.block]? = some (.cells c e (lo,hi))→a.off+i+vs.length≤c.size→vs.all oneC=true →
  Q () (h.setIfInBounds a.block (.cells (lput c.toList (a.off+i) vs).toArray e (lo,hi)))→hw P (storeCells a vs i) Q h
 | [],i,h,c,hb,_,_,H=>by
  have e:h.setIfInBounds a.block (.cells (lput c.toList (a.off+i) []).toArray e (lo,hi))=h:=by
   have hlt:=(Array.getElem?_eq_some_iff.1 hb).1
   apply Array.ext_getElem?
   intro j
   rw [Array.getElem?_setIfInBounds]
   by_cases hj:a.block=j
   ·subst hj; rw [if_pos rfl,if_pos hlt,hb]; simp [lput]
   ·simp [hj]
  rw [e] at H
  exact H
 | v :: vs,i,h,c,hb,hlen,hone,H=>by
  simp only [List.all_cons,Bool.and_eq_true] at hone
  simp only [List.length_cons] at hlen
  show hw P (store (a.add i) v >>= fun _=>storeCells a vs (i+1)) Q h
  rw [hw_bind,run_store,addr_add' a i hs]
  have hlt:a.block<h.size:=(Array.getElem?_eq_some_iff.1 hb).1
  refine ⟨hone.1,?_,?_,?_⟩
  ·unfold hc; simp only [hb]
   refine ⟨c[a.off+i]'(by omega),?_⟩
   simp only [Option.isSome_none,Bool.false_eq_true,if_false]
   rw [Array.getElem?_eq_getElem (by omega)]
  ·unfold hfr; simp only [hb]; simp; omega
  ·have hb':h[({ block:=a.block,off:=a.off+i,spot:=none }:Addr).block]? = some (.cells c e (lo,hi)):=hb
   rw [hset_eq hb' rfl]
   have hb2:(h.setIfInBounds a.block (.cells (c.setIfInBounds (a.off+i) v) e (lo,hi)))[a.block]? = some (.cells (c.setIfInBounds (a.off+i) v) e (lo,hi)):=by
    simp [hlt]
   refine run_storeCells hs hfr0 vs (i+1) _ _ hb2 (by simp; omega) hone.2 ?_
   have e2:(h.setIfInBounds a.block (.cells (c.setIfInBounds (a.off+i) v) e (lo,hi))).setIfInBounds a.block
     (.cells (lput (c.setIfInBounds (a.off+i) v).toList (a.off+(i+1)) vs).toArray e (lo,hi)) =
     h.setIfInBounds a.block (.cells (lput c.toList (a.off+i) (v :: vs)).toArray e (lo,hi)):=by
    rw [lput_set,Array.toList_setIfInBounds]
    rw [Array.setIfInBounds_setIfInBounds,Nat.add_assoc]
   rw [e2]; exact H
theorem sound_store {t:TypeId} {p v:Value} (H:vStore (tn P t) p v K h):hw P (Instr.storeAt t p v) (fun _ h=>K undef h) h:=by
 unfold vStore at H
 split at H
 ·rename_i a n hn
  unfold Instr.storeAt
  rw [hw_bind]
  show hw P (storeVar t a v) _ h
  unfold storeVar
  split at H
  ·rename_i hlen
   have hsz:v.cells.size=n:=by rw [← cl_cells,hlen]; simp
   rw [hw_bind,run_sizeOf hn]
   simp only [hsz,ne_eq,not_true_eq_false,if_false]
   show hw P (storeCells a v.cells.toList) _ h
   split at H
   ·rename_i cs
    unfold vWr at H
    split at H
    ·rename_i h' hh
     unfold wr at hh
     split at hh
     ·rename_i c e lo hi hb
      split at hh
      ·rename_i hcnd
       obtain ⟨h1,h2,h3,h4⟩:=hcnd
       simp only [Option.some.injEq] at hh
       subst hh
       exact run_storeCells h1 h3 cs.toList 0 h c hb h2 h4 H
      ·cases hh
     ·cases hh
    ·exact H.elim
   ·rename_i hna
    have hcells:v.cells.toList=[v]:=by cases v <;> first | rfl | exact (hna _ rfl).elim
    rw [hcells]
    unfold vWr at H
    split at H
    ·rename_i h' hh
     unfold wr1 at hh
     split at hh
     ·rename_i c e lo hi hb
      split at hh
      ·rename_i hcnd
       obtain ⟨h1,h2,h3,h4⟩:=hcnd
       simp only [Option.some.injEq] at hh
       subst hh
       refine run_storeCells h1 h3 [v] 0 h c hb (by simp; omega) (by simpa using h4) ?_
       have e1:(lput c.toList (a.off+0) [v]).toArray=c.setIfInBounds a.off v:=by
        rw [lput_set,Nat.add_zero]
        apply Array.toList_inj.1
        rw [Array.toList_setIfInBounds]
        cases h9:(c.toList.set a.off v) <;> simp [lput]
       rw [e1]; exact H
      ·cases hh
     ·cases hh
    ·exact H.elim
  ·exact H.elim
 ·exact H.elim
theorem sound_field {t:TypeId} {p:Value} {i:Nat} (H:vField (tf P t i) p K h):hw P (Instr.fieldAt t p i) K h:=by
 unfold vField at H
 split at H
 ·rename_i o a hf
  unfold tf at hf
  split at hf
  ·rename_i fs hu
   unfold Instr.fieldAt
   rw [hw_bind,run_under hu]
   cases hfi:fs[i]? with
   | none=>rw [hfi] at hf; cases hf
   | some f=>
    rw [hfi] at hf
    simp only [Option.bind_some] at hf
    split at hf
    ·rename_i m hm
     simp only [Option.some.injEq] at hf
     subst hf
     simp only [hfi]
     simp only [Instr.sureAddr,fieldPlace,hw_bind,hw_pure,run_sizeOf hm,if_neg (Nat.succ_ne_zero m)]
     exact H
    ·cases hf
  ·cases hf
 ·exact H.elim
theorem sound_ix {t:TypeId} {p i:Value} (H:vIx (tarr P t) (tsl P t) (tn P) p i K h):hw P (Instr.indexAt t p i) K h:=by
 unfold vIx at H
 split at H
 ·rename_i k i
  split at H
  ·rename_i len e a ha hs
   split at H
   ·rename_i n hn
    unfold tarr at ha
    split at ha
    ·rename_i m e' hu
     simp only [Option.some.injEq,Prod.mk.injEq] at ha
     obtain ⟨rfl,rfl⟩:=ha
     split at H
     ·rename_i hb
      simp only [Instr.indexAt,asIntOf,Instr.sureAddr,hw_bind,hw_pure,run_under hu,if_pos hb,run_sizeOf hn]
      exact H
     ·exact H.elim
    ·cases ha
   ·exact H.elim
  ·rename_i e a len cap ha hs
   split at H
   ·rename_i n hn
    unfold tsl at hs
    split at hs
    ·rename_i e' hu
     simp only [Option.some.injEq] at hs
     subst hs
     split at H
     ·rename_i hb
      simp only [Instr.indexAt,asIntOf,Instr.sureAddr,hw_bind,hw_pure,run_under hu,if_pos hb,run_sizeOf hn]
      exact H
     ·exact H.elim
    ·cases hs
   ·exact H.elim
  ·exact H.elim
 ·exact H.elim
theorem sound_extract {v:Value} {i:Nat} (H:vExtract v i K h):hw P (Instr.extract v i) K h:=by
 unfold vExtract at H
 split at H
 ·rename_i vs
  unfold vRd1 at H
  split at H
  ·rename_i v hv; simp only [Instr.extract,hv]; exact H
  ·exact H.elim
 ·exact H.elim
theorem sound_call {x:Operand} {f:Value} {c:Call} {args:List Value} (hc:c.callee=.value x) (hf:ev F x=f) (ha:(c.args.map (ev F)).toList=args) (H:vCall P T f args K h) :
  hw P (do let d ← resolve (ev F) c ty; invoke d.target d.args) (vNext P T K) h:=by
 unfold vCall at H
 split at H
 ·rename_i f first captured
  have e:first++c.args.map (ev F)++captured=(first.toList++args++captured.toList).toArray:=by rw [← ha]; simp
  by_cases hg:goes P f=true
  case neg=>
   rw [if_neg hg] at H
   simp only [resolve,hc,hf,Deferred.ofValue,hw_bind,hw_pure,invoke]
   rw [e]
   exact H
  rw [if_pos hg] at H
  unfold goes at hg
  split at hg
  ·rename_i fn hfn
   simp only [Bool.and_eq_true,Bool.not_eq_true'] at hg
   have hbody:fn.body.isNone=false:=by
    cases hb:fn.body with
    | none=>rw [hb] at hg; simp at hg
    | some _=>rfl
   simp only [resolve,hc,hf,Deferred.ofValue,hw_bind,hw_pure,invoke,callFunc,hw_program,hfn,hg.1,Bool.false_eq_true,if_false,hbody]
   rw [e]
   exact H
  ·cases hg
 ·exact H.elim
theorem tz_spec {t:TypeId} {z:List Value} (hz:tz P t=some z):∃ v,v.cells=z.toArray∧∀ {Q:Value→Hp→Prop} {h:Hp},hw P (zeroValue t) Q h=Q v h:=by
 unfold tz at hz
 cases hi:P.info? t with
 | none=>rw [hi] at hz; cases hz
 | some i=>
  rw [hi] at hz
  cases hzz:i.zero with
  | none=>rw [Option.bind_some,hzz] at hz; cases hz
  | some v=>
   rw [Option.bind_some,hzz] at hz
   simp only [Option.map_some,Option.some.injEq] at hz
   refine ⟨v,by rw [← hz,Array.toArray_toList],fun {Q h}=>?_⟩
   unfold zeroValue
   rw [hw_bind,run_info hi]
   simp only [hzz]
   rfl
theorem foldl_set (off:Nat):∀ (vs:List Value) (k:Nat) (cells:Array Value),
  ((vs.zipIdx k).foldl (fun (cs:Array Value) (x:Value × Nat)=>cs.setIfInBounds (off+x.2) x.1) cells).toList=lput cells.toList (off+k) vs
 | [],k,cells=>by cases h:cells.toList <;> simp [lput,h]
 | v :: vs,k,cells=>by
  rw [List.zipIdx_cons,List.foldl_cons,foldl_set off vs (k+1),lput_set,Array.toList_setIfInBounds,Nat.add_assoc]
theorem fill_of {place:Nat→Option (Nat × Nat)}:∀ (parts:List (Nat × Value)) (cs:List Value) (cs':List Value),fillL place cs parts=some cs'→Instr.fill place cs.toArray parts=some cs'.toArray
 | [],cs,cs',h=>by simp only [fillL,Option.some.injEq] at h; subst h; rfl
 | (i,v) :: l,cs,cs',h=>by
  unfold fillL at h
  unfold Instr.fill
  cases hp:place i with
  | none=>rw [hp] at h; cases h
  | some os=>
   obtain ⟨o,s⟩:=os
   rw [hp] at h
   simp only at h ⊢
   split at h
   ·rename_i hc
    have hsz:v.cells.size=s:=by rw [← cl_cells]; simpa using hc.1
    have hcond:¬ ((decide (v.cells.size≠s) || decide (o+v.cells.size > cs.toArray.size))=true):=by
     rw [hsz]; simp; omega
    rw [if_neg hcond]
    have e:(v.cells.zipIdx.foldl (fun (cs:Array Value) (x:Value × Nat)=>cs.setIfInBounds (o+x.2) x.1) cs.toArray)=(lput cs o (cl v)).toArray:=by
     apply Array.toList_inj.1
     have:=foldl_set o (cl v) 0 cs.toArray
     rw [← cl_cells,Array.zipIdx,← Array.foldl_toList]
     have e3:(cl v).mapIdx (fun i a=>(a,i))=(cl v).zipIdx 0:=by
      apply List.ext_getElem?
      intro i
      simp [List.getElem?_zipIdx]
     simpa [Array.zipIdx,e3] using this
    have key:=fill_of l _ _ h
    rw [← e] at key
    exact key
   ·cases h
theorem nth_eq {α:Type} (l:List α) (n:Nat):nth l n=l[n]?:=by
 induction l generalizing n with
 | nil=>simp [nth]
 | cons x l ih=>cases n <;> simp [nth,ih]
theorem evP_map (F:Env) (l:List (Nat × Operand)):evP F l=l.map fun x=>(x.1,ev F x.2):=by
 induction l with
 | nil=>rfl
 | cons x l ih=>obtain ⟨i,x⟩:=x; simp [evP,ih]
theorem run_places:∀ (l:List Field) (Q:List (Nat × Nat)→Hp→Prop) (pl:List (Nat × Nat)),l.mapM (fun f:Field=>(tn P f.type).map fun n=>(f.offset,n))=some pl →
  Q pl h→hw P (l.mapM fun f:Field=>do pure (f.offset,← sizeOf f.type)) Q h
 | [],Q,pl,hp,H=>by
  simp only [List.mapM_nil,pure,Option.some.injEq] at hp
  subst hp
  exact H
 | f :: l,Q,pl,hp,H=>by
  rw [List.mapM_cons] at hp
  cases hn:tn P f.type with
  | none=>rw [hn] at hp; cases hp
  | some n=>
   rw [hn] at hp
   cases hl:l.mapM (fun f:Field=>(tn P f.type).map fun n=>(f.offset,n)) with
   | none=>simp [hl] at hp
   | some pl'=>
    simp [hl] at hp
    subst hp
    rw [List.mapM_cons,hw_bind,hw_bind,run_sizeOf hn]
    show hw P (_ >>= _) Q h
    rw [hw_bind]
    exact run_places l _ pl' hl H
theorem sound_build {t:TypeId} {parts:Array (Nat × Operand)} (H:vBuild (tz P t) (tpl P t) (tarr P t) (tn P) (evP F parts.toList) K h):hw P (Instr.build t (parts.map fun (i,x)=>(i,ev F x))) K h:=by
 have e1:(parts.map fun (i,x)=>(i,ev F x)).toList=evP F parts.toList:=by rw [evP_map,Array.toList_map]
 unfold Instr.build
 rw [e1]
 unfold vBuild at H
 split at H
 ·rename_i z pl hz hpl _
  obtain ⟨v,hv,hrun⟩:=tz_spec hz
  rw [hw_bind,hrun,hw_bind,hv]
  unfold tpl at hpl
  split at hpl
  ·rename_i fs hu
   rw [run_under hu]
   simp only
   rw [hw_bind,← Array.toArray_toList (xs:=fs),List.mapM_toArray,map_eq_pure_bind,hw_bind]
   refine run_places fs.toList _ pl hpl ?_
   unfold vRdN at H
   split at H
   ·rename_i cs hcs
    have e2:(fun i=>pl.toArray[i]?)=nth pl:=by funext i; rw [nth_eq]; simp
    have:=fill_of _ _ _ hcs
    rw [← e2] at this
    simp only [hw_pure,this]
    exact H
   ·exact H.elim
  ·cases hpl
 ·rename_i z n e hz _ ha
  obtain ⟨v,hv,hrun⟩:=tz_spec hz
  rw [hw_bind,hrun,hw_bind,hv]
  unfold tarr at ha
  split at ha
  ·rename_i n' e' hu
   simp only [Option.some.injEq,Prod.mk.injEq] at ha
   obtain ⟨rfl,rfl⟩:=ha
   rw [run_under hu]
   simp only
   unfold vBuildA at H
   split at H
   ·rename_i m hm
    rw [hw_bind,run_sizeOf hm]
    unfold vRdN at H
    split at H
    ·rename_i cs hcs
     have:=fill_of _ _ _ hcs
     have e2:(fun i=>some (i*m,m))=arrPl m:=rfl
     rw [e2]
     simp only [this]
     exact H
    ·exact H.elim
   ·exact H.elim
  ·cases ha
 ·exact H.elim
theorem zrep_eq (z:List Value) (hz:z≠[]):∀ (len:Nat),(Array.range (len*z.length)).map (fun j=>z.toArray[j % z.toArray.size]!)=(zrep len z).toArray:=by
 have hpos:0<z.length:=List.length_pos_iff.2 hz
 have hlen:∀ len,(zrep len z).length=len*z.length:=by
  intro len
  induction len with
  | zero=>simp [zrep]
  | succ n ih=>simp [zrep,ih,Nat.add_mul,Nat.add_comm]
 have hget:∀ len j,j<len*z.length→(zrep len z)[j]? = z[j % z.length]?:=by
  intro len
  induction len with
  | zero=>intro j hj; simp at hj
  | succ n ih=>
   intro j hj
   simp only [zrep]
   by_cases hjl:j<z.length
   ·rw [List.getElem?_append_left hjl,Nat.mod_eq_of_lt hjl]
   ·rw [List.getElem?_append_right (by omega),ih (j - z.length) (by rw [Nat.add_mul] at hj; omega)]
    rw [Nat.mod_eq_sub_mod (by omega:j ≥ z.length)]
 intro len
 apply Array.ext_getElem?
 intro j
 by_cases hj:j<len*z.length
 ·have hmod:j % z.length<z.length:=Nat.mod_lt _ hpos
  simp [hj,hget len j hj,hmod]
 ·have h2:(zrep len z)[j]? = none:=List.getElem?_eq_none (by rw [hlen]; omega)
  simp [hj,h2]
theorem zrep_length (z:List Value):∀ n,(zrep n z).length=n*z.length:=by
 intro len
 induction len with
 | zero=>simp [zrep]
 | succ n ih=>simp [zrep,ih,Nat.add_mul,Nat.add_comm]
theorem seqV_fill:∀ (parts:List (Nat × Value)) (pre vs rest:List Value),seqV pre.length parts=some vs→rest.length=parts.length→fillL (arrPl 1) (pre++rest) parts=some (pre++vs)
 | [],pre,vs,rest,h,hl=>by
  simp only [seqV,Option.some.injEq] at h
  subst h
  have:rest=[]:=List.eq_nil_of_length_eq_zero (by simpa using hl)
  simp [fillL,this]
 | (i,v) :: l,pre,vs,rest,h,hl=>by
  unfold seqV at h
  split at h
  ·rename_i hc
   obtain ⟨rfl,hv⟩:=hc
   cases hs:seqV (pre.length+1) l with
   | none=>rw [hs] at h; cases h
   | some us=>
    rw [hs] at h
    simp only [Option.map_some,Option.some.injEq] at h
    subst h
    cases rest with
    | nil=>simp at hl
    | cons r rest=>
     have hcl:cl v=[v]:=by cases v <;> first | rfl | (simp [oneC] at hv)
     have e1:lput (pre++r :: rest) pre.length [v]=(pre++[v])++rest:=by
      rw [lput_set]
      simp [lput]
     have ih:=seqV_fill l (pre++[v]) us rest (by simpa using hs) (by simpa using hl)
     simp only [fillL,arrPl,hcl,Nat.mul_one,List.length_cons,List.length_nil,List.length_append]
     rw [if_pos (by simp),e1,ih]
     simp
  ·cases h
theorem sound_buildSl {t:TypeId} {len:Nat} {parts:Array (Nat × Operand)} (H:vBuildSl (tsl P t) (tn P) (tz P) len (evP F parts.toList) K h):hw P (Instr.buildSlice t len (parts.map fun (i,x)=>(i,ev F x))) K h:=by
 have e1:(parts.map fun (i,x)=>(i,ev F x)).toList=evP F parts.toList:=by rw [evP_map,Array.toList_map]
 unfold Instr.buildSlice
 rw [e1]
 unfold vBuildSl at H
 split at H
 ·rename_i e he
  unfold tsl at he
  split at he
  ·rename_i e' hu
   simp only [Option.some.injEq] at he
   subst he
   unfold vBuildSlA at H
   split at H
   ·rename_i n z hn hz
    split at H
    ·rename_i hc
     obtain ⟨hzl,hle⟩:=hc
     unfold vMade at H
     split at H
     ·rename_i l hl
      have hfill:fillL (arrPl n) (zrep len z) (evP F parts.toList)=some l:=by
       unfold slCells at hl
       split at hl
       ·rename_i hc
        obtain ⟨rfl,hpl⟩:=hc
        have:=seqV_fill (evP F parts.toList) [] l (zrep len z) hl (by rw [zrep_length,hzl,hpl,Nat.mul_one])
        simpa using this
       ·exact hl
      rw [hw_bind,run_under hu]
      simp only
      rw [hw_bind,run_sizeOf hn,if_neg (by omega)]
      have fin:∀ z':Array Value,(Array.range (len*n)).map (fun j=>z'[j % z'.size]!)=(zrep len z).toArray→hw P (match Instr.fill (fun i=>some (i*n,n)) ((Array.range (len*n)).map (fun j=>z'[j % z'.size]!)) (evP F parts.toList) with
        | some cells=>do
         let a ← newRow e' cells
         pure (Value.slice (some a) len len)
        | x=>stuck "buildSlice: a part of the wrong size") K h:=by
       intro z' hz'
       have:=fill_of _ _ _ hfill
       have e2:(fun i=>some (i*n,n))=arrPl n:=rfl
       rw [e2,hz']
       simp only [this]
       exact H
      split
      ·rename_i h0
       refine fin #[] ?_
       have:(zrep len z).length=0:=by rw [zrep_length,hzl,h0]
       rw [List.eq_nil_of_length_eq_zero this,h0]
       simp
      ·rename_i h0
       obtain ⟨v,hv,hr⟩:=tz_spec hz
       rw [hw_bind,hr]
       refine fin v.cells ?_
       have:z≠[]:=by intro e; subst e; simp at hzl; subst hzl; simp at h0
       rw [hv,← hzl]
       exact zrep_eq z this len
     ·exact H.elim
    ·exact H.elim
   ·exact H.elim
  ·cases he
 ·exact H.elim
theorem sound_part {t:TypeId} {cs:Array Value} {o:Nat} (H:vPart (ta P t) (tn P t) cs.toList o K h):hw P (part t cs o) K h:=by
 unfold vPart at H
 unfold part
 rw [hw_bind]
 split at H
 ·rename_i n ha hn
  rw [run_isAgg ha,if_pos rfl,hw_bind,run_sizeOf hn]
  have e:(cs.extract o (o+n))=((cs.toList.drop o).take n).toArray:=by
   apply Array.toList_inj.1
   simp [List.extract_eq_take_drop]
  rw [e]
  exact H
 ·rename_i ha
  rw [run_isAgg ha,if_neg (by simp)]
  unfold vRd1 at H
  split at H
  ·rename_i v hv
   rw [nth_eq] at hv
   have:cs[o]? = some v:=by rw [← Array.getElem?_toList]; exact hv
   simp only [this]
   exact H
  ·exact H.elim
 ·exact H.elim
theorem sound_fld {t:TypeId} {x:Value} {i:Nat} (H:vFld (tfl P t i) (ta P) (tn P) x K h):hw P (Instr.field t x i) K h:=by
 unfold vFld at H
 split at H
 ·rename_i o ft cs hf
  unfold tfl at hf
  split at hf
  ·rename_i fs hu
   unfold Instr.field
   rw [hw_bind,run_under hu]
   cases hfi:fs[i]? with
   | none=>rw [hfi] at hf; cases hf
   | some f=>
    rw [hfi] at hf
    simp only [Option.map_some,Option.some.injEq,Prod.mk.injEq] at hf
    obtain ⟨rfl,rfl⟩:=hf
    simp only [hfi]
    exact sound_part H
  ·cases hf
 ·exact H.elim
theorem sound_idx {t:TypeId} {x i:Value} (H:vIdx (tarr P t) (tstr P t) (ta P) (tn P) x i K h):hw P (Instr.index t x i) K h:=by
 unfold vIdx at H
 split at H
 ·rename_i k i
  split at H
  ·rename_i len e cs ha _
   unfold tarr at ha
   split at ha
   ·rename_i n' e' hu
    simp only [Option.some.injEq,Prod.mk.injEq] at ha
    obtain ⟨rfl,rfl⟩:=ha
    unfold vIdxA at H
    split at H
    ·rename_i m hm
     split at H
     ·rename_i hc
      unfold Instr.index
      simp only [asIntOf,hw_bind,hw_pure,run_under hu,if_pos hc,run_sizeOf hm]
      exact sound_part (by rw [hm]; exact H)
     ·exact H.elim
    ·exact H.elim
   ·cases ha
  ·rename_i s _ hs
   unfold tstr at hs
   split at hs
   ·rename_i hu
    split at H
    ·rename_i hc
     unfold Instr.index
     have hlt:i.toNat<s.size:=by omega
     have e:s[i.toNat]? = some s[i.toNat]:=by exact getElem?_pos s i.toNat hlt
     have e2:s.data.toList.getD i.toNat 0=s[i.toNat]:=by
      have hl2:i.toNat<s.data.toList.length:=by simpa using hlt
      rw [List.getD_eq_getElem?_getD,List.getElem?_eq_getElem hl2,Option.getD_some]
      rfl
     simp only [asIntOf,hw_bind,hw_pure,run_under hu,if_pos hc.1,e]
     rw [e2] at H
     exact H
    ·exact H.elim
   ·cases hs
  ·exact H.elim
 ·exact H.elim
theorem run_sb {x:Option Value} {v:Value} {y n:Nat} {c:BoundsCode} (hx:x=some v) (hs:sb x 0 y=some n) {Q:Nat→Hp→Prop}:hw P (Instr.sliceBound v y c) Q h=Q n h:=by
 subst hx
 unfold sb at hs
 split at hs
 ·rename_i he; cases he
 ·rename_i k i he
  simp only [Option.some.injEq] at he
  subst he
  split at hs
  ·rename_i hc
   simp only [Option.some.injEq] at hs
   subst hs
   unfold Instr.sliceBound
   simp only [asIntOf,hw_bind,hw_pure,if_pos hc]
  ·cases hs
 ·cases hs
theorem run_bounds {isS:Bool} {len cap b l:Nat} {lo hi:Option Value} (hb:sb hi len cap=some b) (hl:sb lo 0 b=some l) {Q:Nat × Nat × Nat→Hp→Prop} (H:Q (l,b,cap) h):hw P (Instr.sliceBounds isS len cap lo hi none) Q h:=by
 have h2:∀ {c:BoundsCode},hw P (match lo with
   | some v=>do
    let l ← Instr.sliceBound v b c
    pure (l,b,cap)
   | none=>do
    let l ← pure 0
    pure (l,b,cap)) Q h:=by
  intro c
  cases lo with
  | none=>simp only [sb,Option.some.injEq] at hl; subst hl; exact H
  | some v=>
   simp only
   rw [hw_bind,run_sb rfl hl]
   exact H
 unfold Instr.sliceBounds
 rw [hw_bind]
 show hw P (pure cap) _ h
 rw [hw_pure]
 cases hi with
 | none=>
  simp only [sb,Option.some.injEq] at hb
  subst hb
  exact h2
 | some v=>
  have hb':sb (some v) 0 cap=some b:=by unfold sb at hb ⊢; cases v <;> simp at hb ⊢ <;> exact hb
  simp only
  rw [hw_bind,run_sb rfl hb']
  exact h2
theorem run_bounds3 {isS:Bool} {len cap m b l:Nat} {lo:Option Value} {hv mv:Value} (hm:sb (some mv) 0 cap=some m) (hb:sb (some hv) len m=some b) (hl:sb lo 0 b=some l) {Q:Nat × Nat × Nat→Hp→Prop} (H:Q (l,b,m) h):hw P (Instr.sliceBounds isS len cap lo (some hv) (some mv)) Q h:=by
 have hb':sb (some hv) 0 m=some b:=by unfold sb at hb ⊢; cases hv <;> simp at hb ⊢ <;> exact hb
 unfold Instr.sliceBounds
 rw [hw_bind]
 show hw P (Instr.sliceBound mv cap _) _ h
 rw [run_sb rfl hm,hw_bind,run_sb rfl hb']
 cases lo with
 | none=>simp only [sb,Option.some.injEq] at hl; subst hl; exact H
 | some v=>
  show hw P (Instr.sliceBound v b _ >>= _) _ h
  rw [hw_bind,run_sb rfl hl]
  exact H
theorem sound_slc {t:TypeId} {x:Value} {lo hi mx:Option Operand} (H:vSlc (tarr P t) (tsl P t) (tstr P t) (tn P) x (evO F lo) (evO F hi) (evO F mx) K h):hw P (Instr.sliceAt t x (lo.map (ev F)) (hi.map (ev F)) (mx.map (ev F))) K h:=by
 have e:∀ o,evO F o=o.map (ev F):=fun o=>by cases o <;> rfl
 rw [e,e,e] at H
 generalize lo.map (ev F)=lo at *
 generalize hi.map (ev F)=hi at *
 generalize mx.map (ev F)=mx at *
 unfold vSlc at H
 split at H
 ·rename_i mv a len cap e ha hs
  unfold tsl at hs
  split at hs
  ·rename_i e' hu
   simp only [Option.some.injEq] at hs
   subst hs
   split at H
   ·rename_i hv m hm
    unfold vSlcS at H
    split at H
    ·rename_i n b hn hb
     split at H
     ·rename_i l hl
      unfold Instr.sliceAt
      rw [hw_bind,run_under hu]
      simp only
      unfold Instr.slice
      rw [hw_bind,run_under hu]
      simp only
      rw [hw_bind]
      refine run_bounds3 hm hb hl ?_
      simp only [hw_bind,run_sizeOf hn,hw_pure]
      exact H
     ·exact H.elim
    ·exact H.elim
   ·exact H.elim
  ·cases hs
 ·rename_i a len cap e ha hs
  unfold tsl at hs
  split at hs
  ·rename_i e' hu
   simp only [Option.some.injEq] at hs
   subst hs
   unfold vSlcS at H
   split at H
   ·rename_i n b hn hb
    split at H
    ·rename_i l hl
     unfold Instr.sliceAt
     rw [hw_bind,run_under hu]
     simp only
     unfold Instr.slice
     rw [hw_bind,run_under hu]
     simp only
     rw [hw_bind]
     refine run_bounds hb hl ?_
     simp only [hw_bind,run_sizeOf hn,hw_pure]
     exact H
    ·exact H.elim
   ·exact H.elim
  ·cases hs
 ·rename_i a len e ha hs
  unfold tarr at ha
  split at ha
  ·rename_i n' e' hu
   simp only [Option.some.injEq,Prod.mk.injEq] at ha
   obtain ⟨rfl,rfl⟩:=ha
   unfold vSlcS at H
   split at H
   ·rename_i n b hn hb
    split at H
    ·rename_i l hl
     unfold Instr.sliceAt
     rw [hw_bind,run_under hu]
     simp only [Instr.sureAddr,hw_bind,hw_pure]
     refine run_bounds hb hl ?_
     simp only [hw_bind,run_sizeOf hn,hw_pure]
     have e3:(if n'=l then some a else (some a).map (·.add (l*n)))=some (if n'=l then a else a.add (l*n)):=by split <;> rfl
     rw [e3] at H
     exact H
    ·exact H.elim
   ·exact H.elim
  ·cases ha
 ·rename_i s ha hs hst
  unfold tstr at hst
  split at hst
  ·rename_i hu
   split at H
   ·rename_i b hb
    split at H
    ·rename_i l hl
     unfold Instr.sliceAt
     rw [hw_bind,run_under hu]
     simp only
     unfold Instr.slice
     rw [hw_bind,run_under hu]
     simp only [Option.isSome_none,Bool.false_eq_true,if_false]
     rw [hw_bind]
     refine run_bounds hb hl ?_
     exact H
    ·exact H.elim
   ·exact H.elim
  ·cases hst
 ·exact H.elim
theorem sound_mk {t:TypeId} {l c:Value} (H:vMk (tsl P t) (tn P) (tb P) (tz P) l c K h):hw P (Instr.makeSlice t l c) K h:=by
 unfold vMk at H
 split at H
 ·rename_i e k l k' c he
  unfold tsl at he
  split at he
  ·rename_i e' hu
   simp only [Option.some.injEq] at he
   subst he
   unfold vMkA at H
   split at H
   ·rename_i n bytes z hn hby hz
    split at H
    ·rename_i hc
     obtain ⟨hzl,h0,hlc,hc63,hroom⟩:=hc
     obtain ⟨i0,hi0⟩:∃ i,P.info? e'=some i:=by
      unfold tn at hn
      cases hi:P.info? e' with
      | none=>rw [hi] at hn; cases hn
      | some i=>exact ⟨i,rfl⟩
     have hib:i0.bytes=bytes:=by unfold tb at hby; rw [hi0] at hby; simpa using hby
     have w1:IntKind.i64.wrap l=l:=IntWalk.i64_in l ⟨by omega,by omega⟩
     have w2:IntKind.i64.wrap c=c:=IntWalk.i64_in c ⟨by omega,by omega⟩
     have hbig:¬ ((bytes:Int)*c > 2 ^ 48):=by omega
     unfold Instr.makeSlice
     simp only [hw_bind,run_under hu,asInt,asIntOf,hw_pure,run_info hi0,w1,w2,hib]
     have hcond:¬ ((decide (c<0) || decide ((bytes:Int)*c > 2 ^ 48) || decide (l<0) || decide (l > c))=true):=by
      simp; omega
     rw [if_neg hcond]
     have hask:∀ {Q:Unit→Hp→Prop} (b:Nat) (g:Hp),Q () g→hw P (askRoom b) Q g:=fun {Q} b g q=>by
      unfold askRoom; split <;> exact q
     rw [hw_bind]
     refine hask _ _ ?_
     rw [hw_bind,run_sizeOf hn]
     have fin:∀ z':Array Value,(Array.range (c.toNat*n)).map (fun j=>z'[j % z'.size]!)=(zrep c.toNat z).toArray→hw P (do
       let a ← newRow e' ((Array.range (c.toNat*n)).map (fun j=>z'[j % z'.size]!))
       pure (Value.slice (some a) l.toNat c.toNat)) K h:=by
      intro z' hz'
      rw [hz']
      exact H
     split
     ·rename_i h0
      refine fin #[] ?_
      have:(zrep c.toNat z).length=0:=by rw [zrep_length,hzl,h0]
      rw [List.eq_nil_of_length_eq_zero this,h0]
      simp
     ·rename_i h0
      obtain ⟨v,hv,hr⟩:=tz_spec hz
      rw [hw_bind,hr]
      refine fin v.cells ?_
      have:z≠[]:=by intro e; subst e; simp at hzl; subst hzl; simp at h0
      rw [hv,← hzl]
      exact zrep_eq z this c.toNat
    ·exact H.elim
   ·exact H.elim
  ·cases he
 ·exact H.elim
theorem sound_do {op:Op} (H:vDo P T op ty K F h):vOp P T ⟨none,op,ty, "", #[],none⟩ K F h:=by
 have lift:∀ {s:Sem Value},hw P s K h→hw P (do pure (Next.value (← s))) (vNext P T K) h:=fun {s} H=>by rw [hw_bind]; exact H
 unfold vDo at H
 split at H
 ·exact H
 ·exact H
 ·rename_i c a b
  show hw P (do pure (.value (if ← asBool (ev F c) then ev F a else ev F b))) (vNext P T K) h
  unfold vPick at H
  split at H
  ·rename_i t ht
   rw [ht]; cases t <;> exact H
  ·exact H.elim
 ·rename_i e
  refine lift ?_
  unfold vNew tz at H
  split at H
  ·rename_i l hl
   cases hi:P.info? e with
   | none=>rw [hi] at hl; cases hl
   | some i=>
    rw [hi] at hl
    cases hz:i.zero with
    | none=>rw [Option.bind_some,hz] at hl; cases hl
    | some z=>
     rw [Option.bind_some,hz] at hl
     simp only [Option.map_some,Option.some.injEq] at hl
     subst hl
     simp only [Instr.alloc,zeroValue,hw_bind,run_info hi,hz,newVar,newRow,newObj,hw_pure,hw]
     simpa using H
  ·exact H.elim
 ·rename_i e x
  refine lift ?_
  simp only [vNew,cl_cells] at H
  simp only [Instr.box,newVar,newRow,newObj,hw_bind,hw_pure]
  exact H
 ·exact lift (sound_load H)
 ·refine (?_:hw P (do Instr.storeAt _ _ _; pure Next.skip) (vNext P T K) h)
  rw [hw_bind]
  exact sound_store H
 ·exact lift (sound_field H)
 ·exact lift (sound_ix H)
 ·rename_i x
  unfold vNil at H
  split at H
  ·rename_i a hx
   show hw P (match ev F x with | .pointer none | .nilIface | .nilFunc=>_ | .func (.method name) first captured=>_ | x=>_) _ h
   rw [hx]; exact H
  ·rename_i f a b hx
   show hw P (match ev F x with | .pointer none | .nilIface | .nilFunc=>_ | .func (.method name) first captured=>_ | x=>_) _ h
   rw [hx]; exact H
  ·exact H.elim
 ·exact lift H
 ·exact lift H
 ·exact lift H
 ·exact lift (sound_extract H)
 ·rename_i fn first captured
  refine lift ?_
  have e1:∀ l:Array Operand,l.map (ev F)=(evL F l.toList).toArray:=fun l=>by rw [evL_map,← Array.toList_map]
  show hw P (Instr.makeFunc fn (first.map (ev F)) (captured.map (ev F))) K h
  rw [e1,e1]; exact H
 ·rename_i f args ts
  exact sound_call (x:=f) (c:=⟨.value f,args,ts⟩) rfl rfl (by rw [evL_map]; simp) H
 ·rename_i b args ts
  have e1:args.map (ev F)=(evL F args.toList).toArray:=by rw [evL_map,← Array.toList_map]
  unfold vBi at H
  rw [← e1] at H
  exact H
 ·exact lift (sound_build H)
 ·exact lift (sound_buildSl H)
 ·exact lift (sound_fld H)
 ·exact lift (sound_idx H)
 ·exact lift (sound_slc H)
 ·exact lift (sound_mk H)
 ·exact H
theorem vOp_of_do {o:Oper} (H:vDo P T o.op o.type K F h):vOp P T o K F h:=sound_do H
def gval:List Oper→Env→Nat→Value
 | [],_,_=>undef
 | o :: _,F,0=>match o.dst with | some t=>F t | none=>undef
 | _ :: l,F,n+1=>gval l F n
def vGuard (v:Value) (b:Bool) (A B:Prop):Prop:=match v with | .bool c=>if c=b then A else B | _=>B
def sOps (P:Program) (T:World) (ops:List Oper) (N:Env→Hp→Prop):List Oper→Env→Hp→Prop
 | [],F,h=>N F h
 | ⟨d,op,ty,_,_,none⟩ :: l,F,h=>vDo P T op ty (fun v h'=>sOps P T ops N l (updo F d v) h') F h
 | ⟨d,op,ty,_,_,some (j,b)⟩ :: l,F,h=>vGuard (gval ops F j) b (vDo P T op ty (fun v h'=>sOps P T ops N l (updo F d v) h') F h) (sOps P T ops N l (updo F d undef) h)
theorem yieldedF_gval (ops:List Oper) (F:Env):∀ j,yieldedF ops.toArray F j=match gval ops F j with | .bool b=>some b | _=>none:=by
 intro j
 unfold yieldedF
 rw [List.getElem?_toArray]
 induction ops generalizing j with
 | nil=>rfl
 | cons o l ih=>
  cases j with
  | zero=>simp only [List.getElem?_cons_zero,Option.bind_some,gval]; cases o.dst <;> rfl
  | succ j=>simp only [List.getElem?_cons_succ,gval]; exact ih j
theorem wantedF_guard (ops:List Oper) (F:Env) (d:Option Tmp) (op:Op) (pos:String) (aft:Array Edge) (j:Nat) (b:Bool) {A B:Prop} (H:vGuard (gval ops F j) b A B) :
  (wantedF ops.toArray ⟨d,op,ty,pos,aft,some (j,b)⟩ F=true∧A)∨(wantedF ops.toArray ⟨d,op,ty,pos,aft,some (j,b)⟩ F=false∧B):=by
 unfold wantedF Region.wanted
 simp only [yieldedF_gval]
 unfold vGuard at H
 split at H
 ·rename_i c hc
  split at H
  ·rename_i hcb; exact .inl ⟨by simp [hcb],H⟩
  ·rename_i hcb; exact .inr ⟨by simpa using hcb,H⟩
 ·rename_i hne
  refine .inr ⟨?_,H⟩
  cases hv:gval ops F j <;> first | rfl | exact (hne _ hv).elim
theorem vDo_mono {op:Op} {K':Value→Hp→Prop} (hk:∀ v h,K v h→K' v h) (H:vDo P T op ty K F h):vOp P T ⟨none,op,ty, "", #[],none⟩ K' F h:=vOp_mono hk (sound_do H)
theorem vOps_of_sOps {ops:List Oper} {N:Env→Hp→Prop}:∀ (l:List Oper) (F:Env) (h:Hp),sOps P T ops N l F h→vOps P T ops.toArray N l F h
 | [],F,h,H=>H
 | ⟨d,op,ty,pos,aft,none⟩ :: l,F,h,H=>by
  show (if wantedF ops.toArray _ F=true then _ else _)
  rw [if_pos (by rfl)]
  exact vDo_mono (fun v h' q=>vOps_of_sOps l _ _ q) H
 | ⟨d,op,ty,pos,aft,some (j,b)⟩ :: l,F,h,H=>by
  show (if wantedF ops.toArray _ F=true then _ else _)
  rcases wantedF_guard ops F d op pos aft j b H with ⟨hw,H⟩ | ⟨hw,H⟩
  ·rw [if_pos hw]
   exact vDo_mono (fun v h' q=>vOps_of_sOps l _ _ q) H
  ·rw [hw,if_neg (by simp)]
   exact vOps_of_sOps l _ _ H
def sHeld (P:Program) (T:World) (ops:List Oper) (S:Hp→Prop) (N:Env→Hp→Prop):List (Nat × Bool × Oper)→Env→Hp→Prop
 | [],F,h=>N F h
 | (_,true,⟨d,op,ty,_,_,none⟩) :: l,F,h=>∃ v,(∀ h',S h'→vDo P T op ty (fun v' h''=>v'=v∧h''=h') F h')∧sHeld P T ops S N l (updo F d v) h
 | (_,false,⟨d,op,ty,_,_,none⟩) :: l,F,h=>vDo P T op ty (fun v h'=>S h'∧sHeld P T ops S N l (updo F d v) h') F h
 | (_,true,⟨d,op,ty,_,_,some (j,b)⟩) :: l,F,h=>vGuard (gval ops F j) b (∃ v,(∀ h',S h'→vDo P T op ty (fun v' h''=>v'=v∧h''=h') F h')∧sHeld P T ops S N l (updo F d v) h) (sHeld P T ops S N l (updo F d undef) h)
 | (_,false,⟨d,op,ty,_,_,some (j,b)⟩) :: l,F,h=>vGuard (gval ops F j) b (vDo P T op ty (fun v h'=>S h'∧sHeld P T ops S N l (updo F d v) h') F h) (sHeld P T ops S N l (updo F d undef) h)
theorem vHeld_of_sHeld {ops:List Oper} {S:Hp→Prop} {N:Env→Hp→Prop}:∀ (l:List (Nat × Bool × Oper)) (F:Env) (h:Hp),sHeld P T ops S N l F h→vHeld P T ops.toArray S N l F h
 | [],F,h,H=>H
 | (i,true,⟨d,op,ty,pos,aft,none⟩) :: l,F,h,H=>by
  show (if wantedF ops.toArray _ F=true then _ else _)
  rw [if_pos (by rfl)]
  obtain ⟨v,hv,H⟩:=H
  exact ⟨v,fun h' hs=>vOp_of_do (hv h' hs),vHeld_of_sHeld l _ _ H⟩
 | (i,false,⟨d,op,ty,pos,aft,none⟩) :: l,F,h,H=>by
  show (if wantedF ops.toArray _ F=true then _ else _)
  rw [if_pos (by rfl)]
  exact vDo_mono (fun v h' q=>⟨q.1,vHeld_of_sHeld l _ _ q.2⟩) H
 | (i,true,⟨d,op,ty,pos,aft,some (j,b)⟩) :: l,F,h,H=>by
  show (if wantedF ops.toArray _ F=true then _ else _)
  rcases wantedF_guard ops F d op pos aft j b H with ⟨hw,H⟩ | ⟨hw,H⟩
  ·rw [if_pos hw]
   obtain ⟨v,hv,H⟩:=H
   exact ⟨v,fun h' hs=>vOp_of_do (hv h' hs),vHeld_of_sHeld l _ _ H⟩
  ·rw [hw,if_neg (by simp)]
   exact vHeld_of_sHeld l _ _ H
 | (i,false,⟨d,op,ty,pos,aft,some (j,b)⟩) :: l,F,h,H=>by
  show (if wantedF ops.toArray _ F=true then _ else _)
  rcases wantedF_guard ops F d op pos aft j b H with ⟨hw,H⟩ | ⟨hw,H⟩
  ·rw [if_pos hw]
   exact vDo_mono (fun v h' q=>⟨q.1,vHeld_of_sHeld l _ _ q.2⟩) H
  ·rw [hw,if_neg (by simp)]
   exact vHeld_of_sHeld l _ _ H
theorem VS.quiets {n:Nat} {N:Env→Hp→Prop} {X:Nat→Env→Hp→Prop} {R:Env→Hp→Prop} {id:Nat} {ops:List Oper} (hm:P.follows .mixedOrders=true) (hok:regionOk n ops.toArray ((List.range ops.toArray.size).map fun i=>(i,true))=true)
  (H:sHeld P T ops (fun h'=>h'=h) N (ops.map fun o=>(0,true,o)) F h):VS P n T (.region id ops.toArray true) N X R F h:=by
 refine VS.quiet hm hok ?_
 have key:∀ (l:List Oper) (k:Nat) (F:Env),(∀ j,l[j]? = ops[k+j]?)→sHeld P T ops (fun h'=>h'=h) N (l.map fun o=>(0,true,o)) F h →
   sHeld P T ops (fun h'=>h'=h) N (picked ops.toArray ((List.range' k l.length).map fun i=>(i,true))) F h:=by
  intro l
  induction l with
  | nil=>intro k F _ H; exact H
  | cons o l ih=>
   intro k F hl H
   have h0:ops[k]? = some o:=by simpa using (hl 0).symm
   have hl':∀ j,l[j]? = ops[k+1+j]?:=fun j=>by have:=hl (j+1); simpa [Nat.add_assoc,Nat.add_comm 1 j] using this
   have e:picked ops.toArray ((List.range' k (o :: l).length).map fun i=>(i,true))=(k,true,o) :: picked ops.toArray ((List.range' (k+1) l.length).map fun i=>(i,true)):=by
    simp [picked,List.range'_succ,h0]
   rw [e]
   obtain ⟨d,op,ty,pos,aft,g⟩:=o
   cases g with
   | none=>
    obtain ⟨v,hv,H⟩:=H
    exact ⟨v,hv,ih (k+1) _ hl' H⟩
   | some jb=>
    obtain ⟨j,b⟩:=jb
    simp only [List.map_cons,sHeld] at H ⊢
    unfold vGuard at *
    split at H
    ·split at H
     ·rename_i hcb
      rw [if_pos hcb]
      obtain ⟨v,hv,H⟩:=H
      exact ⟨v,hv,ih (k+1) _ hl' H⟩
     ·rename_i hcb
      rw [if_neg hcb]
      exact ih (k+1) _ hl' H
    ·exact ih (k+1) _ hl' H
 have:=key ops 0 F (fun j=>by simp) H
 rw [List.range_eq_range']
 exact vHeld_of_sHeld _ _ _ this
def vCond (v:Value) (A B:Prop):Prop:=match v with | .bool b=>if b=true then A else B | _=>False
def vc (P:Program) (n:Nat) (T:World):Code→(Env→Hp→Prop)→(Nat→Env→Hp→Prop)→(Env→Hp→Prop)→Env→Hp→Prop
 | .skip,N,_,_,F,h=>N F h
 | .ret,_,_,R,F,h=>R F h
 | .exit j,_,X,_,F,h=>X j F h
 | .seq a b,N,X,R,F,h=>vc P n T a (fun F h=>vc P n T b N X R F h) X R F h
 | .cond c a b,N,X,R,F,h=>vCond (ev F c) (vc P n T a N X R F h) (vc P n T b N X R F h)
 | .block j c,N,X,R,F,h=>vc P n T c N (fun i F h=>if i=j then N F h else X i F h) R F h
 | .region _ ops false,N,_,_,F,h=>sOps P T ops.toList N ops.toList F h
 | c,N,X,R,F,h=>VS P n T c N X R F h
def codeOk (n:Nat):Code→Bool
 | .seq a b=>codeOk n a && codeOk n b
 | .cond _ a b=>codeOk n a && codeOk n b
 | .block _ c=>codeOk n c
 | .region _ ops false=>opsOk n ops
 | _=>true
theorem vc_sound {n:Nat}:∀ (c:Code) (N:Env→Hp→Prop) (X:Nat→Env→Hp→Prop) (R:Env→Hp→Prop) (F:Env) (h:Hp),codeOk n c=true→vc P n T c N X R F h→VS P n T c N X R F h:=by
 intro c
 induction c with
 | skip=>intro N X R F h _ H; exact VS.skip H
 | ret=>intro N X R F h _ H; exact VS.ret H
 | exit j=>intro N X R F h _ H; exact VS.exit H
 | seq a b iha ihb=>
  intro N X R F h hok H
  simp only [codeOk,Bool.and_eq_true] at hok
  exact VS.seq (VS.mono (iha _ _ _ _ _ hok.1 H) (fun F h q=>ihb _ _ _ _ _ hok.2 q) (fun _ _ _ q=>q) (fun _ _ q=>q))
 | cond c a b iha ihb=>
  intro N X R F h hok H
  simp only [codeOk,Bool.and_eq_true] at hok
  simp only [vc,vCond] at H
  split at H
  ·rename_i t ht
   refine VS.cond ht (fun hb=>?_) (fun hb=>?_)
   ·rw [if_pos hb] at H; exact iha _ _ _ _ _ hok.1 H
   ·rw [if_neg (by simp [hb])] at H; exact ihb _ _ _ _ _ hok.2 H
  ·exact H.elim
 | block j c ih=>intro N X R F h hok H; exact VS.block (ih _ _ _ _ _ hok H)
 | region id ops draw=>
  intro N X R F h hok H
  cases draw with
  | true=>exact H
  | false=>exact VS.region hok (by simpa using vOps_of_sOps _ _ _ H)
 | _=>intro N X R F h _ H; exact H
theorem CallsH.of_code {f:FuncId} {fn:Func} {c:Code} {l:List ResultVar} {args:List Value} {Q:Value→Hp→Prop} (hf:P.funcs[f]? = some fn) (hb:fn.body=some c)
  (hl:fn.results=l.toArray) (hn:Nat.ble args.length fn.ntmps=true) (hok:codeOk fn.ntmps c=true)
  (H:vc P fn.ntmps T c (fun F h'=>resH P l F Q h') (fun _ _ _=>False) (fun F h'=>resH P l F Q h') (envL args 0) h) :
  CallsH P T f args.toArray h Q:=
 CallsH.of_body hf hb hl (by simpa using hn) (by simpa using vc_sound _ _ _ _ _ _ hok H)
end
section
variable {P:Program} {T:World} {K:Value→Hp→Prop} {F:Env} {h:Hp} {ty:TypeId}
def kOps (P:Program) (T:World) (ops:List Oper) (N:Env→Hp→Prop) (l:List Oper) (F:Env) (d:Option Tmp):Value→Hp→Prop:=fun v h=>sOps P T ops N l (updo F d v) h
theorem kOps_app {ops l:List Oper} {N:Env→Hp→Prop} {d:Option Tmp} {v:Value}:kOps P T ops N l F d v h=sOps P T ops N l (updo F d v) h:=rfl
theorem sOps_nil {ops:List Oper} {N:Env→Hp→Prop}:sOps P T ops N [] F h=N F h:=rfl
theorem sOps_plain {ops l:List Oper} {N:Env→Hp→Prop} {d:Option Tmp} {op:Op} {pos:String} {aft:Array Edge} :
  sOps P T ops N (⟨d,op,ty,pos,aft,none⟩ :: l) F h=vDo P T op ty (kOps P T ops N l F d) F h:=rfl
def sGuard (P:Program) (T:World) (ops:List Oper) (N:Env→Hp→Prop) (l:List Oper) (F:Env) (d:Option Tmp) (op:Op) (ty:TypeId) (v:Value) (b:Bool) (h:Hp):Prop:=
 vGuard v b (vDo P T op ty (kOps P T ops N l F d) F h) (sOps P T ops N l (updo F d undef) h)
theorem sOps_guard {ops l:List Oper} {N:Env→Hp→Prop} {d:Option Tmp} {op:Op} {pos:String} {aft:Array Edge} {j:Nat} {b:Bool} :
  sOps P T ops N (⟨d,op,ty,pos,aft,some (j,b)⟩ :: l) F h=sGuard P T ops N l F d op ty (gval ops F j) b h:=rfl
theorem sGuard_bool {ops l:List Oper} {N:Env→Hp→Prop} {d:Option Tmp} {op:Op} {b c:Bool} :
  sGuard P T ops N l F d op ty (.bool c) b h=if c=b then vDo P T op ty (kOps P T ops N l F d) F h else sOps P T ops N l (updo F d undef) h:=rfl
def nSeq (P:Program) (n:Nat) (T:World) (b:Code) (N:Env→Hp→Prop) (X:Nat→Env→Hp→Prop) (R:Env→Hp→Prop):Env→Hp→Prop:=fun F h=>vc P n T b N X R F h
def xBlk (j:Nat) (N:Env→Hp→Prop) (X:Nat→Env→Hp→Prop):Nat→Env→Hp→Prop:=fun i F h=>if i=j then N F h else X i F h
def xNone:Nat→Env→Hp→Prop:=fun _ _ _=>False
def nRes (P:Program) (l:List ResultVar) (Q:Value→Hp→Prop):Env→Hp→Prop:=fun F h=>resH P l F Q h
def sCond (P:Program) (n:Nat) (T:World) (v:Value) (a b:Code) (N:Env→Hp→Prop) (X:Nat→Env→Hp→Prop) (R:Env→Hp→Prop) (F:Env) (h:Hp):Prop:=
 vCond v (vc P n T a N X R F h) (vc P n T b N X R F h)
section
variable {n:Nat} {N:Env→Hp→Prop} {X:Nat→Env→Hp→Prop} {R:Env→Hp→Prop}
theorem nSeq_app {b:Code}:nSeq P n T b N X R F h=vc P n T b N X R F h:=rfl
theorem xBlk_app {i j:Nat}:xBlk j N X i F h=if i=j then N F h else X i F h:=rfl
theorem xNone_app {i:Nat}:xNone i F h=False:=rfl
theorem nRes_app {l:List ResultVar} {Q:Value→Hp→Prop}:nRes P l Q F h=resH P l F Q h:=rfl
theorem vc_skip:vc P n T .skip N X R F h=N F h:=rfl
theorem vc_ret:vc P n T .ret N X R F h=R F h:=rfl
theorem vc_exit {j:Nat}:vc P n T (.exit j) N X R F h=X j F h:=rfl
theorem vc_seq {a b:Code}:vc P n T (.seq a b) N X R F h=vc P n T a (nSeq P n T b N X R) X R F h:=rfl
theorem vc_cond {c:Operand} {a b:Code}:vc P n T (.cond c a b) N X R F h=sCond P n T (ev F c) a b N X R F h:=rfl
theorem vc_block {j:Nat} {c:Code}:vc P n T (.block j c) N X R F h=vc P n T c N (xBlk j N X) R F h:=rfl
theorem vc_region {id:Nat} {l:List Oper}:vc P n T (.region id l.toArray false) N X R F h=sOps P T l N l F h:=rfl
theorem vc_draw {id:Nat} {l:Array Oper}:vc P n T (.region id l true) N X R F h=VS P n T (.region id l true) N X R F h:=rfl
theorem vc_loop {c:Code}:vc P n T (.loop c) N X R F h=VS P n T (.loop c) N X R F h:=rfl
theorem sCond_bool {a b:Code} {t:Bool}:sCond P n T (.bool t) a b N X R F h=if t=true then vc P n T a N X R F h else vc P n T b N X R F h:=rfl
end
theorem CallsH.of_code' {f:FuncId} {fn:Func} {c:Code} {l:List ResultVar} {args:List Value} {Q:Value→Hp→Prop} (hf:P.funcs[f]? = some fn) (hb:fn.body=some c)
  (hl:fn.results=l.toArray) (hn:Nat.ble args.length fn.ntmps=true) (hok:codeOk fn.ntmps c=true)
  (H:vc P fn.ntmps T c (nRes P l Q) xNone (nRes P l Q) (envL args 0) h):CallsH P T f args.toArray h Q:=CallsH.of_code hf hb hl hn hok H
def nLoop (I:Env→Hp→Prop) (μ:Env→Hp→Nat) (m:Nat):Env→Hp→Prop:=fun F h=>I F h∧μ F h<m
theorem VS.loop' {n:Nat} {N:Env→Hp→Prop} {X:Nat→Env→Hp→Prop} {R:Env→Hp→Prop} {c:Code} (I:Env→Hp→Prop) (μ:Env→Hp→Nat) (hok:codeOk n c=true) (h0:I F h)
  (round:∀ F h,I F h→vc P n T c (nLoop I μ (μ F h)) X R F h):VS P n T (.loop c) N X R F h:=
 VS.loop I μ h0 fun F h hI=>vc_sound _ _ _ _ _ _ hok (round F h hI)
theorem CallsH.use {f:FuncId} {args:Array Value} {Q:Value→Hp→Prop} (c:CallsH P T f args h Q) (H:∀ v h',Q v h'→K v h'):CallsH P T f args h K:=c.mono H
theorem CallsH.pure {f:FuncId} {args:Array Value} {r:Value} (c:CallsH P T f args h fun v h'=>v=r∧h'=h) (H:K r h):CallsH P T f args h K:=
 c.mono fun _ _ ⟨e1,e2⟩=>by subst e1; subst e2; exact H
def ap (B:Value→Prop) (v:Value):Prop:=B v
def kEq (v:Value) (h:Hp):Value→Hp→Prop:=fun v' h'=>v'=v∧h'=h
def qOps (P:Program) (T:World) (ops:List Oper) (N:Env→Hp→Prop):List Oper→Env→Hp→Prop
 | [],F,h=>N F h
 | ⟨d,op,ty,_,_,none⟩ :: l,F,h=>∃ v,vDo P T op ty (kEq v h) F h∧qOps P T ops N l (updo F d v) h
 | ⟨d,op,ty,_,_,some (j,b)⟩ :: l,F,h=>vGuard (gval ops F j) b (∃ v,vDo P T op ty (kEq v h) F h∧qOps P T ops N l (updo F d v) h) (qOps P T ops N l (updo F d undef) h)
theorem sHeld_of_qOps {ops:List Oper} {N:Env→Hp→Prop}:∀ (l:List Oper) (F:Env),qOps P T ops N l F h→sHeld P T ops (fun h'=>h'=h) N (l.map fun o=>(0,true,o)) F h
 | [],_,H=>H
 | ⟨d,op,ty,pos,aft,none⟩ :: l,F,H=>by
  obtain ⟨v,hv,H⟩:=H
  exact ⟨v,fun h' e=>by subst e; exact hv,sHeld_of_qOps l _ H⟩
 | ⟨d,op,ty,pos,aft,some (j,b)⟩ :: l,F,H=>by
  simp only [qOps,vGuard] at H
  simp only [List.map_cons,sHeld,vGuard]
  split at H
  ·split at H
   ·rename_i hcb
    rw [if_pos hcb]
    obtain ⟨v,hv,H⟩:=H
    exact ⟨v,fun h' e=>by subst e; exact hv,sHeld_of_qOps l _ H⟩
   ·rename_i hcb
    rw [if_neg hcb]
    exact sHeld_of_qOps l _ H
  ·exact sHeld_of_qOps l _ H
theorem VS.q {n:Nat} {N:Env→Hp→Prop} {X:Nat→Env→Hp→Prop} {R:Env→Hp→Prop} {id:Nat} {ops:List Oper} (hm:P.follows .mixedOrders=true) (hok:regionOk n ops.toArray ((List.range ops.toArray.size).map fun i=>(i,true))=true)
  (H:qOps P T ops N ops F h):VS P n T (.region id ops.toArray true) N X R F h:=VS.quiets hm hok (sHeld_of_qOps _ _ H)
def qK (P:Program) (T:World) (ops:List Oper) (N:Env→Hp→Prop) (l:List Oper) (F:Env) (d:Option Tmp) (h:Hp):Value→Prop:=fun v=>qOps P T ops N l (updo F d v) h
def qDo (P:Program) (T:World) (op:Op) (ty:TypeId) (B:Value→Prop) (F:Env) (h:Hp):Prop:=∃ v,vDo P T op ty (kEq v h) F h∧ap B v
def qGuard (P:Program) (T:World) (ops:List Oper) (N:Env→Hp→Prop) (l:List Oper) (F:Env) (d:Option Tmp) (op:Op) (ty:TypeId) (v:Value) (b:Bool) (h:Hp):Prop:=
 vGuard v b (qDo P T op ty (qK P T ops N l F d h) F h) (qOps P T ops N l (updo F d undef) h)
theorem qOps_nil {ops:List Oper} {N:Env→Hp→Prop}:qOps P T ops N [] F h=N F h:=rfl
theorem qOps_plain {ops l:List Oper} {N:Env→Hp→Prop} {d:Option Tmp} {op:Op} {pos:String} {aft:Array Edge} :
  qOps P T ops N (⟨d,op,ty,pos,aft,none⟩ :: l) F h=qDo P T op ty (qK P T ops N l F d h) F h:=rfl
theorem qOps_guard {ops l:List Oper} {N:Env→Hp→Prop} {d:Option Tmp} {op:Op} {pos:String} {aft:Array Edge} {j:Nat} {b:Bool} :
  qOps P T ops N (⟨d,op,ty,pos,aft,some (j,b)⟩ :: l) F h=qGuard P T ops N l F d op ty (gval ops F j) b h:=rfl
theorem qGuard_bool {ops l:List Oper} {N:Env→Hp→Prop} {d:Option Tmp} {op:Op} {b c:Bool} :
  qGuard P T ops N l F d op ty (.bool c) b h=if c=b then qDo P T op ty (qK P T ops N l F d h) F h else qOps P T ops N l (updo F d undef) h:=rfl
theorem qK_app {ops l:List Oper} {N:Env→Hp→Prop} {d:Option Tmp} {v:Value}:qK P T ops N l F d h v=qOps P T ops N l (updo F d v) h:=rfl
def qR (x:Option Value) (B:Value→Prop):Prop:=match x with | some v=>ap B v | none=>False
theorem qR_some {v:Value} {B:Value→Prop}:qR (some v) B=B v:=rfl
theorem qEq {v:Value} {B:Value→Prop}:(∃ u,kEq u h v h∧ap B u)=B v:=by
 apply propext; constructor
 ·rintro ⟨u,⟨e,_⟩,H⟩; subst e; exact H
 ·intro H; exact ⟨v,⟨rfl,rfl⟩,H⟩
section
variable {B:Value→Prop}
theorem qDo_move {x:Operand}:qDo P T (.move x) ty B F h=B (ev F x):=qEq
theorem qDo_assign {x:Operand}:qDo P T (.assign x) ty B F h=B (ev F x):=qEq
def qPick (c a b:Value) (B:Value→Prop):Prop:=match c with | .bool t=>B (if t then a else b) | _=>False
theorem qPick_bool {t:Bool} {a b:Value}:qPick (.bool t) a b B=B (if t=true then a else b):=rfl
theorem qDo_pick {c a b:Operand}:qDo P T (.pick c a b) ty B F h=qPick (ev F c) (ev F a) (ev F b) B:=by
 show (∃ u,vPick _ _ _ (kEq u h) h∧ap B u)=_
 unfold vPick qPick
 cases ev F c <;> first | exact qEq | simp
def qLoad (s:Option Bool) (n:Option Nat) (p:Value) (B:Value→Prop) (h:Hp):Prop:=
 match p with
 | .pointer (some a)=>match s,n with
  | some false,_=>qR (hc h a) B
  | some true,some n=>qR ((rd h a n).map fun l=>.agg l.toArray) B
  | _,_=>False
 | _=>False
theorem qLoad_one {n:Option Nat} {a:Addr}:qLoad (some false) n (.pointer (some a)) B h=qR (hc h a) B:=rfl
theorem qLoad_many {n:Nat} {a:Addr}:qLoad (some true) (some n) (.pointer (some a)) B h=qR ((rd h a n).map fun l=>.agg l.toArray) B:=rfl
theorem qDo_load {t:TypeId} {x:Operand}:qDo P T (.load t x) ty B F h=qLoad (ta P t) (tn P t) (ev F x) B h:=by
 show (∃ u,vLoad _ _ _ (kEq u h) h∧ap B u)=_
 unfold vLoad qLoad
 cases ev F x with
 | pointer a=>
  cases a with
  | none=>simp
  | some a=>
   simp only
   rcases ta P t with _ | b
   ·simp
   ·cases b
    ·simp only [vRd1,qR]
     cases hc h a with
     | none=>simp
     | some v=>exact qEq
    ·rcases tn P t with _ | n
     ·simp
     ·simp only [vRdN,qR]
      cases rd h a n with
      | none=>simp
      | some v=>exact qEq
 | _=>simp
def qField (f:Option Nat) (p:Value) (B:Value→Prop):Prop:=match f,p with | some o,.pointer (some a)=>B (.pointer (some (a.add o))) | _,_=>False
theorem qField_some {o b f:Nat}:qField (some o) (.pointer (some ⟨b,f,none⟩)) B=B (.pointer (some ⟨b,f+o,none⟩)):=by
 show B (.pointer (some (Addr.add _ _)))=_; rw [addr_add]
theorem qDo_field {t:TypeId} {x:Operand} {i:Nat}:qDo P T (.fieldAddr t x i) ty B F h=qField (tf P t i) (ev F x) B:=by
 show (∃ u,vField _ _ (kEq u h) h∧ap B u)=_
 unfold vField qField
 rcases tf P t i with _ | o
 ·simp
 ·cases ev F x with
  | pointer a=>cases a with
   | none=>simp
   | some a=>exact qEq
  | _=>simp
def qIx (arr:Option (Nat × TypeId)) (sl:Option TypeId) (n:TypeId→Option Nat) (p i:Value) (B:Value→Prop):Prop:=
 match i with
 | .int _ i=>(match arr,sl,p with
  | some (len,e),none,.pointer (some a)=>(match n e with
   | some n=>if 0≤i∧i<(len:Int) then B (.pointer (some (a.add (i.toNat*n)))) else False
   | none=>False)
  | none,some e,.slice (some a) len _=>(match n e with
   | some n=>if 0≤i∧i<(len:Int) then B (.pointer (some (a.add (i.toNat*n)))) else False
   | none=>False)
  | _,_,_=>False)
 | _=>False
def qIxA (m:Option Nat) (len:Nat) (a:Addr) (i:Int) (B:Value→Prop):Prop:=
 match m with | some m=>if 0≤i∧i<(len:Int) then B (.pointer (some (a.add (i.toNat*m)))) else False | none=>False
theorem qIx_arr {len:Nat} {e:TypeId} {n:TypeId→Option Nat} {a:Addr} {k:IntKind} {i:Int}:qIx (some (len,e)) none n (.pointer (some a)) (.int k i) B=qIxA (n e) len a i B:=rfl
theorem qIx_slice {len cap:Nat} {e:TypeId} {n:TypeId→Option Nat} {a:Addr} {k:IntKind} {i:Int}:qIx none (some e) n (.slice (some a) len cap) (.int k i) B=qIxA (n e) len a i B:=rfl
theorem qIxA_some {m len b f:Nat} {i:Int}:qIxA (some m) len ⟨b,f,none⟩ i B=if 0≤i∧i<(len:Int) then B (.pointer (some ⟨b,f+i.toNat*m,none⟩)) else False:=by
 simp only [qIxA,addr_add]
theorem exists_ite {c:Prop} [Decidable c] {A:Value→Prop}:(∃ u,(if c then A u else False)∧ap B u)=if c then (∃ u,A u∧ap B u) else False:=by
 split <;> simp
theorem qDo_ix {t:TypeId} {x i:Operand}:qDo P T (.indexAddr t x i) ty B F h=qIx (tarr P t) (tsl P t) (tn P) (ev F x) (ev F i) B:=by
 show (∃ u,vIx _ _ _ _ _ (kEq u h) h∧ap B u)=_
 unfold vIx qIx
 cases ev F i with
 | int k i=>
  simp only
  rcases tarr P t with _ | ⟨len,e⟩
  ·rcases tsl P t with _ | e
   ·simp
   ·cases ev F x with
    | slice a len cap=>
     cases a with
     | none=>simp
     | some a=>
      simp only
      rcases tn P e with _ | n
      ·simp
      ·simp only; rw [exists_ite,qEq]
    | _=>simp
  ·rcases tsl P t with _ | e'
   ·cases ev F x with
    | pointer a=>
     cases a with
     | none=>simp
     | some a=>
      simp only
      rcases tn P e with _ | n
      ·simp
      ·simp only; rw [exists_ite,qEq]
    | _=>simp
   ·simp
 | _=>simp
def qExtract (v:Value) (i:Nat) (B:Value→Prop):Prop:=match v with | .tuple vs=>qR (vs[i]?) B | _=>False
theorem qExtract_tuple {l:List Value} {i:Nat}:qExtract (.tuple l.toArray) i B=qR (nth l i) B:=by simp [qExtract,nth_eq]
theorem qDo_extract {x:Operand} {i:Nat}:qDo P T (.extract x i) ty B F h=qExtract (ev F x) i B:=by
 show (∃ u,vExtract _ _ (kEq u h) h∧ap B u)=_
 unfold vExtract qExtract
 cases ev F x with
 | tuple vs=>
  simp only [vRd1,qR]
  cases vs[i]? with
  | none=>simp
  | some v=>exact qEq
 | _=>simp
def qNil (v:Value) (B:Value→Prop):Prop:=match v with | .pointer (some a)=>B (.pointer (some a)) | .func (.func f) x y=>B (.func (.func f) x y) | _=>False
theorem qNil_pointer {a:Addr}:qNil (.pointer (some a)) B=B (.pointer (some a)):=rfl
theorem qDo_nil {x:Operand}:qDo P T (.nilCheck x) ty B F h=qNil (ev F x) B:=by
 show (∃ u,vNil _ (kEq u h) h∧ap B u)=_
 unfold vNil qNil
 cases ev F x with
 | pointer a=>cases a with
  | none=>simp
  | some a=>exact qEq
 | func f a b=>cases f with
  | func f=>exact qEq
  | _=>simp
 | _=>simp
theorem qDo_bin {op:BinOp} {t t':TypeId} {x y:Operand}:qDo P T (.binOp op t x y t') ty B F h = ∃ u,vBin P op t x y (ev F x) (ev F y) (kEq u h) h∧ap B u:=rfl
theorem qDo_un {op:UnOp} {t:TypeId} {x:Operand}:qDo P T (.unOp op t x) ty B F h = ∃ u,vUn P op (ev F x) (kEq u h) h∧ap B u:=rfl
theorem qDo_conv {s d:TypeId} {x:Operand}:qDo P T (.convert s d x) ty B F h = ∃ u,vConv P s d (ev F x) (kEq u h) h∧ap B u:=rfl
theorem qDo_bi {b:Builtin} {args:Array Operand} {ts:Array TypeId}:qDo P T (.call ⟨.builtin b,args,ts⟩) ty B F h =
  ∃ u,vBi P T b ts ty (args.map fun | .const _=>true | _=>false) (evL F args.toList) (kEq u h) h∧ap B u:=rfl
end
theorem ev_tmp {t:Nat}:ev F (.tmp t)=F t:=rfl
theorem ev_const {v:Value}:ev F (.const v)=v:=rfl
theorem ev_global {g:Nat}:ev F (.global g)=.pointer (some ⟨g,0,none⟩):=rfl
theorem ev_func {g:Nat}:ev F (.func g)=.func (.func g) #[] #[]:=rfl
theorem updo_some {d:Nat} {v:Value} {t:Nat}:updo F (some d) v t=if t=d then v else F t:=rfl
theorem updo_none {v:Value}:updo F none v=F:=rfl
theorem upd_app {d:Nat} {v:Value} {t:Nat}:upd F d v t=if t=d then v else F t:=rfl
theorem vPick_bool {t:Bool} {a b:Value}:vPick (.bool t) a b K h=K (if t=true then a else b) h:=rfl
theorem vNew_some {l:List Value} {t:TypeId}:vNew (some l) t K h=K (.pointer (some ⟨h.size,0,none⟩)) (h.push (.cells l.toArray t)):=rfl
theorem vRd1_some {v:Value}:vRd1 (some v) K h=K v h:=rfl
theorem vRdN_some {l:List Value}:vRdN (some l) K h=K (.agg l.toArray) h:=rfl
theorem vLoad_one {n:Option Nat} {a:Addr}:vLoad (some false) n (.pointer (some a)) K h=vRd1 (hc h a) K h:=rfl
theorem vLoad_many {n:Nat} {a:Addr}:vLoad (some true) (some n) (.pointer (some a)) K h=vRdN (rd h a n) K h:=rfl
theorem vWr_some {h':Hp}:vWr (some h') K=K undef h':=rfl
theorem vStore_int {n:Nat} {a:Addr} {k:IntKind} {i:Int}:vStore (some n) (.pointer (some a)) (.int k i) K h=if n=1 then vWr (wr1 h a (.int k i)) K else False:=rfl
theorem vStore_bool {n:Nat} {a:Addr} {b:Bool}:vStore (some n) (.pointer (some a)) (.bool b) K h=if n=1 then vWr (wr1 h a (.bool b)) K else False:=rfl
theorem vStore_slice {n:Nat} {a:Addr} {p:Option Addr} {l c:Nat}:vStore (some n) (.pointer (some a)) (.slice p l c) K h=if n=1 then vWr (wr1 h a (.slice p l c)) K else False:=rfl
theorem vStore_string {n:Nat} {a:Addr} {s:ByteArray}:vStore (some n) (.pointer (some a)) (.string s) K h=if n=1 then vWr (wr1 h a (.string s)) K else False:=rfl
theorem vStore_pointer {n:Nat} {a:Addr} {p:Option Addr}:vStore (some n) (.pointer (some a)) (.pointer p) K h=if n=1 then vWr (wr1 h a (.pointer p)) K else False:=rfl
theorem vStore_map {n:Nat} {a:Addr} {p:Option Nat}:vStore (some n) (.pointer (some a)) (.map p) K h=if n=1 then vWr (wr1 h a (.map p)) K else False:=rfl
theorem vStore_func {n:Nat} {a:Addr} {f:Fn} {x y:Array Value}:vStore (some n) (.pointer (some a)) (.func f x y) K h=if n=1 then vWr (wr1 h a (.func f x y)) K else False:=rfl
theorem vStore_nilFunc {n:Nat} {a:Addr}:vStore (some n) (.pointer (some a)) .nilFunc K h=if n=1 then vWr (wr1 h a .nilFunc) K else False:=rfl
theorem vStore_agg {n:Nat} {a:Addr} {l:List Value}:vStore (some n) (.pointer (some a)) (.agg l.toArray) K h=if n=l.length then vWr (wr h a l) K else False:=rfl
theorem vField_some {o b f:Nat}:vField (some o) (.pointer (some ⟨b,f,none⟩)) K h=K (.pointer (some ⟨b,f+o,none⟩)) h:=by
 show K (.pointer (some (Addr.add _ _))) h=_; rw [addr_add]
def vIxA (m:Option Nat) (len:Nat) (a:Addr) (i:Int) (K:Value→Hp→Prop) (h:Hp):Prop:=
 match m with | some m=>if 0≤i∧i<(len:Int) then K (.pointer (some (a.add (i.toNat*m)))) h else False | none=>False
theorem vIx_arr {len:Nat} {e:TypeId} {n:TypeId→Option Nat} {a:Addr} {k:IntKind} {i:Int} :
  vIx (some (len,e)) none n (.pointer (some a)) (.int k i) K h=vIxA (n e) len a i K h:=rfl
theorem vIx_slice {len cap:Nat} {e:TypeId} {n:TypeId→Option Nat} {a:Addr} {k:IntKind} {i:Int} :
  vIx none (some e) n (.slice (some a) len cap) (.int k i) K h=vIxA (n e) len a i K h:=rfl
theorem vIxA_some {m len b f:Nat} {i:Int}:vIxA (some m) len ⟨b,f,none⟩ i K h=if 0≤i∧i<(len:Int) then K (.pointer (some ⟨b,f+i.toNat*m,none⟩)) h else False:=by
 simp only [vIxA,addr_add]
theorem vExtract_tuple {l:List Value} {i:Nat}:vExtract (.tuple l.toArray) i K h=vRd1 (nth l i) K h:=by simp [vExtract,nth_eq]
theorem vNil_pointer {a:Addr}:vNil (.pointer (some a)) K h=K (.pointer (some a)) h:=rfl
theorem vNil_func {f:FuncId} {x y:Array Value}:vNil (.func (.func f) x y) K h=K (.func (.func f) x y) h:=rfl
theorem vCall_func {f:FuncId} {l:List Value} (hg:goes P f=true):vCall P T (.func (.func f) #[] #[]) l K h=CallsH P T f l.toArray h K:=by
 simp only [vCall,hg,↓reduceIte]
 simp
theorem vBin_add {t:TypeId} {x y:Operand} {k:IntKind} {a b:Int}:vBin P .add t x y (.int k a) (.int k b) K h=K (.int k (k.wrap (a+b))) h:=by
 simp [vBin,binOp,Op.intArith,hw_pure,eqGuard]
theorem vBin_sub {t:TypeId} {x y:Operand} {k:IntKind} {a b:Int}:vBin P .sub t x y (.int k a) (.int k b) K h=K (.int k (k.wrap (a - b))) h:=by
 simp [vBin,binOp,Op.intArith,hw_pure,eqGuard]
theorem vBin_mul {t:TypeId} {x y:Operand} {k:IntKind} {a b:Int}:vBin P .mul t x y (.int k a) (.int k b) K h=K (.int k (k.wrap (a*b))) h:=by
 simp [vBin,binOp,Op.intArith,hw_pure,eqGuard]
theorem vBin_quo {t:TypeId} {x y:Operand} {k:IntKind} {a b:Int}:vBin P .quo t x y (.int k a) (.int k b) K h=if b=0 then False else K (.int k (k.wrap (a.tdiv b))) h:=by
 simp only [vBin,binOp,Op.intDiv,hw_bind,eqGuard]
 by_cases hb:b=0
 ·subst hb; simp [runtimePanic,goPanic,hw_bind,hw,hw_pure,program]
 ·simp [hb,hw_pure]
theorem vBin_rem {t:TypeId} {x y:Operand} {k:IntKind} {a b:Int}:vBin P .rem t x y (.int k a) (.int k b) K h=if b=0 then False else K (.int k (a.tmod b)) h:=by
 simp only [vBin,binOp,Op.intDiv,hw_bind,eqGuard]
 by_cases hb:b=0
 ·subst hb; simp [runtimePanic,goPanic,hw_bind,hw,hw_pure,program]
 ·simp [hb,hw_pure]
def bitOp (op:BinOp) (k:IntKind) (a b:Int):Int:=
 let x:=BitVec.ofInt k.bits a
 let y:=BitVec.ofInt k.bits b
 k.wrap (match op with | .and=>x &&& y | .or=>x ||| y | .xor=>x ^^^ y | _=>x &&& ~~~y).toNat
theorem vBin_and {t:TypeId} {x y:Operand} {k:IntKind} {a b:Int}:vBin P .and t x y (.int k a) (.int k b) K h=K (.int k (bitOp .and k a b)) h:=by
 simp [vBin,binOp,Op.intBits,hw_pure,eqGuard,bitOp]
theorem vBin_or {t:TypeId} {x y:Operand} {k:IntKind} {a b:Int}:vBin P .or t x y (.int k a) (.int k b) K h=K (.int k (bitOp .or k a b)) h:=by
 simp [vBin,binOp,Op.intBits,hw_pure,eqGuard,bitOp]
theorem vBin_xor {t:TypeId} {x y:Operand} {k:IntKind} {a b:Int}:vBin P .xor t x y (.int k a) (.int k b) K h=K (.int k (bitOp .xor k a b)) h:=by
 simp [vBin,binOp,Op.intBits,hw_pure,eqGuard,bitOp]
theorem vBin_andNot {t:TypeId} {x y:Operand} {k:IntKind} {a b:Int}:vBin P .andNot t x y (.int k a) (.int k b) K h=K (.int k (bitOp .andNot k a b)) h:=by
 simp [vBin,binOp,Op.intBits,hw_pure,eqGuard,bitOp]
def shlOp (k:IntKind) (a b:Int):Int:=k.wrap (a*2 ^ min b.toNat k.bits)
def shrOp (k:IntKind) (a b:Int):Int:=a.fdiv (2 ^ min b.toNat k.bits)
theorem vBin_shl {t:TypeId} {x y:Operand} {k k':IntKind} {a b:Int}:vBin P .shl t x y (.int k a) (.int k' b) K h=if b<0 then False else K (.int k (shlOp k a b)) h:=by
 simp only [vBin,binOp,Op.shift,hw_bind,eqGuard]
 by_cases hb:b<0
 ·simp [hb,runtimePanic,goPanic,hw_bind,hw,hw_pure,program]
 ·simp [hb,hw_pure,shlOp]
theorem vBin_shr {t:TypeId} {x y:Operand} {k k':IntKind} {a b:Int}:vBin P .shr t x y (.int k a) (.int k' b) K h=if b<0 then False else K (.int k (shrOp k a b)) h:=by
 simp only [vBin,binOp,Op.shift,hw_bind,eqGuard]
 by_cases hb:b<0
 ·simp [hb,runtimePanic,goPanic,hw_bind,hw,hw_pure,program]
 ·simp [hb,hw_pure,shrOp]
theorem vBin_eql {t:TypeId} {x y:Operand} {k:IntKind} {a b:Int}:vBin P .eql t x y (.int k a) (.int k b) K h=K (.bool (decide (a=b))) h:=by
 simp [vBin,binOp,Op.intCmp,hw_pure,eqGuard]; rfl
theorem vBin_neq {t:TypeId} {x y:Operand} {k:IntKind} {a b:Int}:vBin P .neq t x y (.int k a) (.int k b) K h=K (.bool (decide (a≠b))) h:=by
 simp [vBin,binOp,Op.intCmp,hw_pure,eqGuard]
 have:(a != b) = !decide (a=b):=by rfl
 rw [this]
theorem vBin_lss {t:TypeId} {x y:Operand} {k:IntKind} {a b:Int}:vBin P .lss t x y (.int k a) (.int k b) K h=K (.bool (decide (a<b))) h:=by
 simp [vBin,binOp,Op.intCmp,hw_pure,eqGuard]
theorem vBin_leq {t:TypeId} {x y:Operand} {k:IntKind} {a b:Int}:vBin P .leq t x y (.int k a) (.int k b) K h=K (.bool (decide (a≤b))) h:=by
 simp [vBin,binOp,Op.intCmp,hw_pure,eqGuard]
theorem vBin_gtr {t:TypeId} {x y:Operand} {k:IntKind} {a b:Int}:vBin P .gtr t x y (.int k a) (.int k b) K h=K (.bool (decide (b<a))) h:=by
 simp [vBin,binOp,Op.intCmp,hw_pure,eqGuard]
theorem vBin_geq {t:TypeId} {x y:Operand} {k:IntKind} {a b:Int}:vBin P .geq t x y (.int k a) (.int k b) K h=K (.bool (decide (b≤a))) h:=by
 simp [vBin,binOp,Op.intCmp,hw_pure,eqGuard]
theorem vUn_not {b:Bool}:vUn P .not (.bool b) K h=K (.bool (!b)) h:=rfl
theorem vUn_neg {k:IntKind} {a:Int}:vUn P .neg (.int k a) K h=K (.int k (k.wrap (0 - a))) h:=rfl
theorem vUn_xor {k:IntKind} {a:Int}:vUn P .xor (.int k a) K h=K (.int k (bitOp .xor k (if k.signed then -1 else k.max) a)) h:=rfl
def vConvI (d:Option IntKind) (a:Int) (K:Value→Hp→Prop) (h:Hp):Prop:=match d with | some k=>K (.int k (k.wrap a)) h | none=>False
theorem vConvI_some {k:IntKind} {a:Int}:vConvI (some k) a K h=K (.int k (k.wrap a)) h:=rfl
theorem vConv_int {s d:TypeId} {j:IntKind} {a:Int} (hs:(tint P s).isSome=true) (hd:(tint P d).isSome=true):vConv P s d (.int j a) K h=vConvI (tint P d) a K h:=by
 unfold tint at hd hs
 split at hd
 ·rename_i k1 h1
  split at hs
  ·rename_i k2 h2
   simp only [vConv,convert,hw_bind,run_under h1,run_under h2]
   unfold tint
   rw [h1]
   rfl
  ·cases hs
 ·cases hd
theorem vBin_eqlS {t:TypeId} {x y:Operand} {a b:ByteArray}:vBin P .eql t x y (.string a) (.string b) K h=K (.bool (a.toList == b.toList)) h:=by
 simp [vBin,binOp,Op.stringOp,hw_pure,eqGuard]
theorem vBin_neqS {t:TypeId} {x y:Operand} {a b:ByteArray}:vBin P .neq t x y (.string a) (.string b) K h=K (.bool (!(a.toList == b.toList))) h:=by
 simp [vBin,binOp,Op.stringOp,hw_pure,eqGuard]
theorem vBi_lenSlice {cs:Array Bool} {t:TypeId} {p:Option Addr} {l c:Nat} (ht:(tsl P t).isSome=true) :
  vBi P T .len #[t] ty cs [.slice p l c] K h=K (.int .i64 l) h:=by
 unfold tsl at ht
 split at ht
 ·rename_i e' hu
  simp [vBi,builtin,Builtin.len_,hw_bind,hw_pure,run_under hu,vNext,goInt]
 ·cases ht
theorem tstr_spec {t:TypeId} (h:tstr P t=true):P.underlying t=some .string:=by
 unfold tstr at h; split at h
 ·assumption
 ·cases h
theorem vBi_lenString {cs:Array Bool} {t:TypeId} {s:ByteArray} (ht:tstr P t=true) :
  vBi P T .len #[t] ty cs [.string s] K h=K (.int .i64 s.size) h:=by
 simp [vBi,builtin,Builtin.len_,hw_bind,hw_pure,run_under (tstr_spec ht),vNext,goInt]
theorem vBi_min {ts:Array TypeId} {cs:Array Bool} {k k':IntKind} {a b:Int}:vBi P T .min ts ty cs [.int k a,.int k' b] K h=K (.int k (if b<a then b else a)) h:=by
 simp [vBi,builtin,Builtin.min_,Builtin.min2,hw_pure,vNext]
theorem vBi_max {ts:Array TypeId} {cs:Array Bool} {k k':IntKind} {a b:Int}:vBi P T .max ts ty cs [.int k a,.int k' b] K h=K (.int k (if b > a then b else a)) h:=by
 simp [vBi,builtin,Builtin.max_,Builtin.max2,hw_pure,vNext]
end
section
variable {P:Program} {T:World} {K:Value→Hp→Prop} {F:Env} {h:Hp} {ty:TypeId} {B:Value→Prop}
def fillAt (p:Option (Nat × Nat)) (place:Nat→Option (Nat × Nat)) (cs:List Value) (v:Value) (l:List (Nat × Value)):Option (List Value):=
 match p with
 | some (o,s)=>if (cl v).length=s∧o+s≤cs.length then fillL place (lput cs o (cl v)) l else none
 | none=>none
theorem fillL_nil {place:Nat→Option (Nat × Nat)} {cs:List Value}:fillL place cs []=some cs:=rfl
theorem fillL_cons {place:Nat→Option (Nat × Nat)} {cs:List Value} {i:Nat} {v:Value} {l:List (Nat × Value)}:fillL place cs ((i,v) :: l)=fillAt (place i) place cs v l:=rfl
theorem fillAt_some {o s:Nat} {place:Nat→Option (Nat × Nat)} {cs:List Value} {v:Value} {l:List (Nat × Value)} :
  fillAt (some (o,s)) place cs v l=if (cl v).length=s∧o+s≤cs.length then fillL place (lput cs o (cl v)) l else none:=rfl
theorem arrPl_app {n i:Nat}:arrPl n i=some (i*n,n):=rfl
theorem vBuild_struct {z:List Value} {pl:List (Nat × Nat)} {n:TypeId→Option Nat} {parts:List (Nat × Value)}:vBuild (some z) (some pl) none n parts K h=vRdN (fillL (nth pl) z parts) K h:=rfl
theorem vBuild_arr {z:List Value} {m e:Nat} {n:TypeId→Option Nat} {parts:List (Nat × Value)}:vBuild (some z) none (some (m,e)) n parts K h=vBuildA (n e) z parts K h:=rfl
theorem vBuildA_some {z:List Value} {n:Nat} {parts:List (Nat × Value)}:vBuildA (some n) z parts K h=vRdN (fillL (arrPl n) z parts) K h:=rfl
theorem vMade_some {e:TypeId} {len:Nat} {l:List Value}:vMade e len (some l) K h=K (.slice (some ⟨h.size,0,none⟩) len len) (h.push (.cells l.toArray e)):=rfl
theorem vBuildSlA_some {e:TypeId} {n len:Nat} {z:List Value} {parts:List (Nat × Value)}:vBuildSlA e (some n) (some z) len parts K h=if z.length=n∧len*n≤16777216 then vMade e len (slCells n len z parts) K h else False:=rfl
theorem vBuildSl_some {e:TypeId} {n:TypeId→Option Nat} {z:TypeId→Option (List Value)} {len:Nat} {parts:List (Nat × Value)}:vBuildSl (some e) n z len parts K h=vBuildSlA e (n e) (z e) len parts K h:=rfl
theorem vPart_true {n o:Nat} {cs:List Value}:vPart (some true) (some n) cs o K h=K (.agg ((cs.drop o).take n).toArray) h:=rfl
theorem vPart_false {n:Option Nat} {o:Nat} {cs:List Value}:vPart (some false) n cs o K h=vRd1 (nth cs o) K h:=rfl
theorem vFld_some {o t:Nat} {a:TypeId→Option Bool} {n:TypeId→Option Nat} {cs:List Value}:vFld (some (o,t)) a n (.agg cs.toArray) K h=vPart (a t) (n t) cs o K h:=rfl
theorem vIdx_arr {len e:Nat} {a:TypeId→Option Bool} {n:TypeId→Option Nat} {cs:List Value} {k:IntKind} {i:Int}:vIdx (some (len,e)) false a n (.agg cs.toArray) (.int k i) K h=vIdxA (n e) (a e) len cs i K h:=rfl
theorem vIdxA_some {m len:Nat} {a:Option Bool} {cs:List Value} {i:Int}:vIdxA (some m) a len cs i K h=if 0≤i∧i<(len:Int) then vPart a (some m) cs (i.toNat*m) K h else False:=rfl
theorem vIdx_str {a:TypeId→Option Bool} {n:TypeId→Option Nat} {s:ByteArray} {k:IntKind} {i:Int}:vIdx none true a n (.string s) (.int k i) K h=if 0≤i∧i<(s.size:Int) then K (.int .u8 ((s.data.toList.getD i.toNat 0).toNat:Nat)) h else False:=rfl
theorem sb_none {d y:Nat}:sb none d y=some d:=rfl
theorem sb_int {k:IntKind} {i:Int} {d y:Nat}:sb (some (.int k i)) d y=if 0≤i∧i≤(y:Int) then some i.toNat else none:=rfl
def vSlcL (a:Option Addr) (n cap b:Nat) (l:Option Nat) (K:Value→Hp→Prop) (h:Hp):Prop:=
 match l with | some l=>K (.slice (if cap=l then a else a.map (·.add (l*n))) (b - l) (cap - l)) h | none=>False
def vSlcH (n:Nat) (a:Option Addr) (cap:Nat) (lo:Option Value) (b:Option Nat) (K:Value→Hp→Prop) (h:Hp):Prop:=
 match b with | some b=>vSlcL a n cap b (sb lo 0 b) K h | none=>False
theorem vSlcS_some {n:Nat} {a:Option Addr} {len cap:Nat} {lo hi:Option Value}:vSlcS (some n) a len cap lo hi K h=vSlcH n a cap lo (sb hi len cap) K h:=by
 unfold vSlcS vSlcH vSlcL
 cases sb hi len cap <;> rfl
theorem vSlcH_some {n b:Nat} {a:Option Addr} {cap:Nat} {lo:Option Value}:vSlcH n a cap lo (some b) K h=vSlcL a n cap b (sb lo 0 b) K h:=rfl
theorem vSlcL_some {n b l k o:Nat} {cap:Nat}:vSlcL (some ⟨k,o,none⟩) n cap b (some l) K h=K (.slice (if cap=l then some ⟨k,o,none⟩ else some ⟨k,o+l*n,none⟩) (b - l) (cap - l)) h:=by
 simp only [vSlcL,Option.map_some,addr_add]
theorem vSlcL_none {n b l:Nat} {cap:Nat}:vSlcL none n cap b (some l) K h=K (.slice none (b - l) (cap - l)) h:=by
 simp [vSlcL]
theorem vSlc_slice {e:Nat} {str:Bool} {n:TypeId→Option Nat} {a:Option Addr} {len cap:Nat} {lo hi:Option Value}:vSlc none (some e) str n (.slice a len cap) lo hi none K h=vSlcS (n e) a len cap lo hi K h:=rfl
def vSlc3 (n:Option Nat) (a:Option Addr) (len:Nat) (lo:Option Value) (hv:Value) (m:Option Nat) (K:Value→Hp→Prop) (h:Hp):Prop:=match m with | some m=>vSlcS n a len m lo (some hv) K h | none=>False
theorem vSlc3_some {n:Option Nat} {a:Option Addr} {len m:Nat} {lo:Option Value} {hv:Value}:vSlc3 n a len lo hv (some m) K h=vSlcS n a len m lo (some hv) K h:=rfl
theorem vSlc_max {e:Nat} {str:Bool} {n:TypeId→Option Nat} {a:Option Addr} {len cap:Nat} {lo:Option Value} {hv mv:Value}:vSlc none (some e) str n (.slice a len cap) lo (some hv) (some mv) K h=vSlc3 (n e) a len lo hv (sb (some mv) 0 cap) K h:=by
 simp only [vSlc,vSlc3]
 cases sb (some mv) 0 cap <;> rfl
theorem vSlc_arr {e len:Nat} {str:Bool} {n:TypeId→Option Nat} {a:Addr} {lo hi:Option Value}:vSlc (some (len,e)) none str n (.pointer (some a)) lo hi none K h=vSlcS (n e) (some a) len len lo hi K h:=rfl
def vSlcT (s:ByteArray) (lo:Option Value) (b:Option Nat) (K:Value→Hp→Prop) (h:Hp):Prop:=
 match b with
 | some b=>(match sb lo 0 b with | some l=>K (.string (s.extract l b)) h | none=>False)
 | none=>False
theorem vSlc_str {n:TypeId→Option Nat} {s:ByteArray} {lo hi:Option Value}:vSlc none none true n (.string s) lo hi none K h=vSlcT s lo (sb hi s.size s.size) K h:=rfl
theorem vMk_ints {e:Nat} {n b':TypeId→Option Nat} {z:TypeId→Option (List Value)} {k k':IntKind} {l c:Int}:vMk (some e) n b' z (.int k l) (.int k' c) K h=vMkA e (n e) (b' e) (z e) l c K h:=rfl
theorem vMkA_some {e n by':Nat} {z:List Value} {l c:Int}:vMkA e (some n) (some by') (some z) l c K h =
  if z.length=n∧0≤l∧l≤c∧c≤9223372036854775807∧(by':Int)*c≤281474976710656 then K (.slice (some ⟨h.size,0,none⟩) l.toNat c.toNat) (h.push (.cells (zrep c.toNat z).toArray e)) else False:=rfl
theorem qDo_fld {t:TypeId} {x:Operand} {i:Nat}:qDo P T (.field t x i) ty B F h = ∃ u,vFld (tfl P t i) (ta P) (tn P) (ev F x) (kEq u h) h∧ap B u:=rfl
theorem qDo_idx {t:TypeId} {x i:Operand}:qDo P T (.index t x i) ty B F h = ∃ u,vIdx (tarr P t) (tstr P t) (ta P) (tn P) (ev F x) (ev F i) (kEq u h) h∧ap B u:=rfl
theorem qDo_slc {t:TypeId} {x:Operand} {lo hi mx:Option Operand}:qDo P T (.slice t x lo hi mx) ty B F h = ∃ u,vSlc (tarr P t) (tsl P t) (tstr P t) (tn P) (ev F x) (evO F lo) (evO F hi) (evO F mx) (kEq u h) h∧ap B u:=rfl
theorem qDo_build {t:TypeId} {parts:Array (Nat × Operand)}:qDo P T (.build t parts) ty B F h = ∃ u,vBuild (tz P t) (tpl P t) (tarr P t) (tn P) (evP F parts.toList) (kEq u h) h∧ap B u:=rfl
theorem cl_agg {l:List Value}:cl (.agg l.toArray)=l:=rfl
theorem hc_push {l:List Value} {t:TypeId} {b o:Nat}:hc (h.push (.cells l.toArray t)) ⟨b,o,none⟩=if b=h.size then nth l o else hc h ⟨b,o,none⟩:=by
 unfold hc
 simp only [Array.getElem?_push]
 by_cases hb:b=h.size
 ·subst hb; simp [nth_eq]
 ·simp [hb]
theorem rd_push {l:List Value} {t:TypeId} {b o n:Nat}:rd (h.push (.cells l.toArray t)) ⟨b,o,none⟩ n=if b=h.size then (if o+n≤l.length then some ((l.drop o).take n) else none) else rd h ⟨b,o,none⟩ n:=by
 unfold rd
 simp only [Array.getElem?_push]
 by_cases hb:b=h.size
 ·subst hb; simp
 ·simp [hb]
def opush (x:Option Hp) (o:Obj):Option Hp:=match x with | some h=>some (h.push o) | none=>none
theorem opush_some {o:Obj}:opush (some h) o=some (h.push o):=rfl
theorem set_push {o o':Obj} {b:Nat} (hb:b<h.size):(h.push o).setIfInBounds b o'=(h.setIfInBounds b o').push o:=by
 apply Array.ext_getElem?
 intro i
 simp only [Array.getElem?_setIfInBounds,Array.getElem?_push,Array.size_push,Array.size_setIfInBounds]
 by_cases h1:b=i
 ·subst h1
  rw [if_pos rfl,if_pos (by omega),if_neg (by omega),if_pos rfl,if_pos hb]
 ·rw [if_neg h1]
  by_cases h2:i=h.size
  ·rw [if_pos h2,if_pos h2]
  ·rw [if_neg h2,if_neg h2,if_neg h1]
theorem set_push_eq {o o':Obj}:(h.push o).setIfInBounds h.size o'=h.push o':=by
 apply Array.ext_getElem?
 intro i
 simp only [Array.getElem?_setIfInBounds,Array.getElem?_push,Array.size_push]
 by_cases h1:h.size=i
 ·subst h1; rw [if_pos rfl,if_pos (by omega),if_pos rfl]
 ·rw [if_neg h1,if_neg (fun e=>h1 e.symm),if_neg (fun e=>h1 e.symm)]
theorem wr1_push {l:List Value} {t:TypeId} {b o:Nat} {v:Value}:wr1 (h.push (.cells l.toArray t)) ⟨b,o,none⟩ v=if b=h.size then (if o<l.length∧oneC v=true then some (h.push (.cells (l.set o v).toArray t)) else none) else opush (wr1 h ⟨b,o,none⟩ v) (.cells l.toArray t):=by
 unfold wr1
 simp only [Array.getElem?_push]
 by_cases hb:b=h.size
 ·subst hb
  simp only [↓reduceIte,List.size_toArray,Nat.le_refl,true_and,set_push_eq,List.setIfInBounds_toArray]
 ·simp only [if_neg hb]
  cases hx:h[b]? with
  | none=>rfl
  | some ob=>
   have hlt:=(Array.getElem?_eq_some_iff.1 hx).1
   cases ob with
   | cells c e fr=>
    obtain ⟨lo,hi⟩:=fr
    simp only
    split
    ·simp only [opush,set_push hlt]
    ·rfl
   | _=>rfl
theorem wr_push {l:List Value} {t:TypeId} {b o:Nat} {vs:List Value}:wr (h.push (.cells l.toArray t)) ⟨b,o,none⟩ vs=if b=h.size then (if o+vs.length≤l.length∧vs.all oneC=true then some (h.push (.cells (lput l o vs).toArray t)) else none) else opush (wr h ⟨b,o,none⟩ vs) (.cells l.toArray t):=by
 unfold wr
 simp only [Array.getElem?_push]
 by_cases hb:b=h.size
 ·subst hb
  simp only [↓reduceIte,List.size_toArray,Nat.le_refl,true_and,set_push_eq]
 ·simp only [if_neg hb]
  cases hx:h[b]? with
  | none=>rfl
  | some ob=>
   have hlt:=(Array.getElem?_eq_some_iff.1 hx).1
   cases ob with
   | cells c e fr=>
    obtain ⟨lo,hi⟩:=fr
    simp only
    split
    ·simp only [opush,set_push hlt]
    ·rfl
   | _=>rfl
end
def cellsAt (h:Hp) (b o:Nat) (cs:List Value):Prop:=∀ i (hi:i<cs.length),hc h ⟨b,o+i,none⟩=some cs[i]
def Sl (n:Nat) (h:Hp) (v:Value) (m:Nat) (cs:List Value):Prop:=
 ∃ p cap,v=.slice p m cap∧cs.length=m*n∧(cs≠[]→∃ b o,p=some ⟨b,o,none⟩∧cellsAt h b o cs)
def Own (B:Nat) (E:TypeId) (n:Nat) (h:Hp) (v:Value) (m:Nat) (cs:List Value):Prop:=
 ((∃ p,v=.slice p 0 0)∧m=0∧cs=[]) ∨
 ∃ b cap spare,B≤b∧v=.slice (some ⟨b,0,none⟩) m cap∧h[b]? = some (.cells (cs++spare).toArray E (0,0))∧cs.length=m*n∧spare.length=(cap - m)*n∧m≤cap
structure Bel (B:Nat) (h h':Hp):Prop where
 size:h.size≤h'.size
 block:∀ b,b<B→h'[b]? = h[b]?
theorem Bel.refl (B:Nat) (h:Hp):Bel B h h:=⟨Nat.le_refl _,fun _ _=>rfl⟩
theorem Bel.trans {B:Nat} {h h' h'':Hp} (a:Bel B h h') (b:Bel B h' h''):Bel B h h'':=
 ⟨Nat.le_trans a.size b.size,fun k hk=>(b.block k hk).trans (a.block k hk)⟩
theorem Bel.mono {B B':Nat} {h h':Hp} (a:Bel B h h') (hB:B'≤B):Bel B' h h':=⟨a.size,fun k hk=>a.block k (Nat.lt_of_lt_of_le hk hB)⟩
theorem Bel.push {B:Nat} {h:Hp} (hB:B≤h.size) (o:Obj):Bel B h (h.push o):=
 ⟨by simp,fun k hk=>by rw [Array.getElem?_push,if_neg (by omega)]⟩
theorem Bel.set {B:Nat} {h:Hp} {b:Nat} (hb:B≤b) (o:Obj):Bel B h (h.setIfInBounds b o):=
 ⟨by simp,fun k hk=>by rw [Array.getElem?_setIfInBounds,if_neg (by omega)]⟩
theorem Bel.hc {B:Nat} {h h':Hp} (a:Bel B h h') {p:Addr} (hp:p.block<B):hc h' p=hc h p:=by unfold V.hc; rw [a.block _ hp]
theorem lt_of_get {h:Hp} {b:Nat} {o:Obj} (hb:h[b]? = some o):b<h.size:=(Array.getElem?_eq_some_iff.1 hb).1
theorem lt_of_hc {h:Hp} {p:Addr} {v:Value} (hp:hc h p=some v):p.block<h.size:=by
 unfold hc at hp
 cases hb:h[p.block]? with
 | none=>rw [hb] at hp; cases hp
 | some o=>exact lt_of_get hb
theorem hc_of_get {h:Hp} {b:Nat} {c:Array Value} {e:TypeId} {fr:Nat × Nat} (hb:h[b]? = some (.cells c e fr)) (o:Nat):hc h ⟨b,o,none⟩=c[o]?:=by
 unfold hc; simp only [hb]; rfl
theorem Bel.cellsAt {B:Nat} {h h':Hp} (a:Bel B h h') {b o:Nat} {cs:List Value} (hb:b<B) (hcs:cellsAt h b o cs):cellsAt h' b o cs:=
 fun i hi=>by rw [a.hc (by exact hb)]; exact hcs i hi
theorem Sl.bel {n:Nat} {h h':Hp} {v:Value} {m:Nat} {cs:List Value} (s:Sl n h v m cs) (a:Bel h.size h h'):Sl n h' v m cs:=by
 obtain ⟨p,cap,hv,hl,hc⟩:=s
 refine ⟨p,cap,hv,hl,fun hne=>?_⟩
 obtain ⟨b,o,hp,hcs⟩:=hc hne
 refine ⟨b,o,hp,a.cellsAt ?_ hcs⟩
 have hpos:0<cs.length:=List.length_pos_iff.2 hne
 exact lt_of_hc (hcs 0 hpos)
theorem Own.sl {B:Nat} {E:TypeId} {n:Nat} {h:Hp} {v:Value} {m:Nat} {cs:List Value} (s:Own B E n h v m cs):Sl n h v m cs:=by
 rcases s with ⟨⟨p,rfl⟩,rfl,rfl⟩ | ⟨b,cap,spare,hB,rfl,hb,hl,_,_⟩
 ·exact ⟨p,0,rfl,by simp,fun h=>(h rfl).elim⟩
 ·refine ⟨_,cap,rfl,hl,fun _=>⟨b,0,rfl,fun i hi=>?_⟩⟩
  rw [hc_of_get hb,Nat.zero_add]
  simp [List.getElem?_append_left hi]
theorem Own.nil (B:Nat) (E:TypeId) (n:Nat) (h:Hp):Own B E n h (.slice none 0 0) 0 []:=.inl ⟨⟨none,rfl⟩,rfl,rfl⟩
theorem Own.nil' (B:Nat) (E:TypeId) (n:Nat) (h:Hp) (p:Option Addr):Own B E n h (.slice p 0 0) 0 []:=.inl ⟨⟨p,rfl⟩,rfl,rfl⟩
def blkOf:Value→Option Nat
 | .slice (some a) _ cap=>if cap=0 then none else some a.block
 | _=>none
structure But (x:Option Nat) (h h':Hp):Prop where
 size:h.size≤h'.size
 block:∀ b,b<h.size→x≠some b→h'[b]? = h[b]?
theorem But.bel {x:Option Nat} {h h':Hp} (a:But x h h') {B:Nat} (hB:B≤h.size) (hx:∀ b,x=some b→B≤b):Bel B h h':=
 ⟨a.size,fun k hk=>a.block k (by omega) (fun e=>by have:=hx k e; omega)⟩
theorem Own.blk {B:Nat} {E:TypeId} {n:Nat} {h:Hp} {v:Value} {m:Nat} {cs:List Value} (s:Own B E n h v m cs):∀ b,blkOf v=some b→B≤b:=by
 intro b hb
 rcases s with ⟨⟨p,rfl⟩,_,_⟩ | ⟨b',cap,spare,hB,rfl,_⟩
 ·cases p <;> simp [blkOf] at hb
 ·simp only [blkOf] at hb
  split at hb
  ·cases hb
  ·simp only [Option.some.injEq] at hb; omega
theorem Own.but {B:Nat} {E:TypeId} {n:Nat} {h h':Hp} {v:Value} {m:Nat} {cs:List Value} (s:Own B E n h v m cs) {x:Option Nat} (a:But x h h') (hx:∀ b,blkOf v=some b→x≠some b):Own B E n h' v m cs:=by
 rcases s with s | ⟨b,cap,spare,hB,rfl,hb,r⟩
 ·exact .inl s
 ·by_cases hc:cap=0
  ·subst hc
   obtain ⟨r1,r2,r3⟩:=r
   have hm:m=0:=by omega
   subst hm
   exact .inl ⟨⟨_,rfl⟩,rfl,List.eq_nil_of_length_eq_zero (by simpa using r1)⟩
  ·exact .inr ⟨b,cap,spare,hB,rfl,by rw [a.block b (lt_of_get hb) (hx b (by simp [blkOf,hc]))]; exact hb,r⟩
theorem But.push {h:Hp} (o:Obj) {x:Option Nat}:But x h (h.push o):=⟨by simp,fun k hk _=>by rw [Array.getElem?_push,if_neg (by omega)]⟩
theorem But.refl {h:Hp} {x:Option Nat}:But x h h:=⟨Nat.le_refl _,fun _ _ _=>rfl⟩
theorem Own.push {B:Nat} {E:TypeId} {n:Nat} {h:Hp} {v:Value} {m:Nat} {cs:List Value} (s:Own B E n h v m cs) (o:Obj):Own B E n (h.push o) v m cs:=
 s.but (x:=none) (But.push o) (fun _ _=>by simp)
theorem Own.bel {B C:Nat} {E:TypeId} {n:Nat} {h h':Hp} {v:Value} {m:Nat} {cs:List Value} (s:Own B E n h v m cs) (a:Bel C h h') (hC:h.size≤C):Own B E n h' v m cs:=
 s.but (x:=none) ⟨a.size,fun b hb _=>a.block b (by omega)⟩ (fun _ _=>by simp)
theorem Own.mono {B B':Nat} {E:TypeId} {n:Nat} {h:Hp} {v:Value} {m:Nat} {cs:List Value} (s:Own B E n h v m cs) (hB:B'≤B):Own B' E n h v m cs:=by
 rcases s with s | ⟨b,cap,spare,hb,r⟩
 ·exact .inl s
 ·exact .inr ⟨b,cap,spare,by omega,r⟩
section
variable {P:Program} {T:World} {K:Value→Hp→Prop} {F:Env} {h:Hp} {ty:TypeId}
theorem run_firstCells {n m:Nat} {v:Value} {cs:List Value} (s:Sl n h v m cs) {Q:Array Value→Hp→Prop} (H:Q cs.toArray h):hw P (Builtin.firstCells n m v) Q h:=by
 obtain ⟨p,cap,rfl,hl,hc⟩:=s
 cases p with
 | none=>
  have:cs=[]:=by
   cases cs with
   | nil=>rfl
   | cons x l=>obtain ⟨b,o,hp,_⟩:=hc (by simp); cases hp
  subst this
  exact H
 | some a=>
  show hw P (loadCells a (m*n)) Q h
  rw [← hl]
  refine run_loadCells a cs _ 0 #[] (fun j hj=>?_) rfl (by simpa using H)
  obtain ⟨b,o,hp,hcs⟩:=hc (by intro e; subst e; simp at hj)
  simp only [Option.some.injEq] at hp
  subst hp
  rw [addr_add,Nat.zero_add,hcs j hj]
  simp [hj]
theorem Sl.lenOf {n m:Nat} {v:Value} {cs:List Value} (s:Sl n h v m cs) {Q:Nat→Hp→Prop}:hw P (Builtin.lenOf v) Q h=Q m h:=by
 obtain ⟨p,cap,rfl,_,_⟩:=s; rfl
theorem lput_app (l r vs:List Value):lput (l++r) l.length vs=l++lput r 0 vs:=by
 induction l with
 | nil=>simp
 | cons x l ih=>
  cases vs with
  | nil=>simp [lput]
  | cons v vs=>simp only [List.cons_append,List.length_cons,lput]; rw [ih]
theorem lput_zero (r vs:List Value) (h:vs.length≤r.length):lput r 0 vs=vs++r.drop vs.length:=by
 induction vs generalizing r with
 | nil=>simp [lput]
 | cons v vs ih=>
  cases r with
  | nil=>simp at h
  | cons x r=>simp only [lput,List.cons_append,List.length_cons,List.drop_succ_cons]; rw [ih r (by simpa using h)]
theorem zeroCells_size (z:Array Value) (n:Nat):(Builtin.zeroCells z n).size=n*z.size:=by simp [Builtin.zeroCells]
theorem nextcap_le (need cap bytes:Nat) (hlt:cap<need) (hb:need*bytes≤140737488355328):Builtin.nextslicecap need cap*bytes≤281474976710656:=by
 have g1:∀ (r c:Nat),need≤c→Builtin.growBy need r c=c:=by
  intro r c hc
  cases r with
  | zero=>rfl
  | succ r=>simp [Builtin.growBy,hc]
 have g2:∀ (r c:Nat),c<need→Builtin.growBy need r c≤need+(need+768) / 4:=by
  intro r
  induction r with
  | zero=>intro c hc; simp only [Builtin.growBy]; omega
  | succ r ih=>
   intro c hc
   simp only [Builtin.growBy]
   rw [if_neg (by omega)]
   by_cases h2:c+(c+768) / 4<need
   ·exact ih _ h2
   ·rw [g1 r _ (by omega)]; omega
 have key:Builtin.nextslicecap need cap≤2*need+192:=by
  unfold Builtin.nextslicecap
  split
  ·omega
  ·split
   ·omega
   ·have:=g2 4 cap hlt; omega
 have e1:Builtin.nextslicecap need cap*bytes≤(2*need+192)*bytes:=Nat.mul_le_mul_right _ key
 unfold Builtin.nextslicecap
 split
 ·omega
 ·rename_i h1
  split
  ·have:2*cap*bytes≤2*need*bytes:=Nat.mul_le_mul_right _ (by omega)
   have e:2*need*bytes=2*(need*bytes):=by rw [Nat.mul_assoc]
   omega
  ·rename_i h2
   have hg:=g2 4 cap hlt
   have h3:Builtin.growBy need 4 cap*bytes≤(need+(need+768) / 4)*bytes:=Nat.mul_le_mul_right _ hg
   have h4:(need+(need+768) / 4)*bytes≤(2*need)*bytes:=Nat.mul_le_mul_right _ (by omega)
   have e:2*need*bytes=2*(need*bytes):=by rw [Nat.mul_assoc]
   omega
theorem append_own {sT xT E E' B n m k bytes:Nat} {v s:Value} {cs news zs:List Value} {cb:Array Bool} (hsT:tsl P sT=some E) (hxT:P.underlying xT=some (.slice E')) (hn:tn P E=some n) (hz:tz P E=some zs) (hzn:zs.length=n) (hby:tb P E=some bytes)
  (own:Own B E n h v m cs) (hB:B≤h.size) (src:Sl n h s k news) (hone:news.all oneC=true) (hroom:(m+k)*bytes≤140737488355328) (hb1:1≤bytes)
  (H:∀ v' h',Own B E n h' v' (m+k) (cs++news)→But (blkOf v) h h'→K v' h'):vBi P T .append #[sT,xT] ty cb [v,s] K h:=by
 unfold tsl at hsT
 split at hsT
 ·rename_i e' hu
  simp only [Option.some.injEq] at hsT
  subst hsT
  show hw P (do pure (.value (← Builtin.append_ #[sT,xT] ty #[v,s]))) (vNext P T K) h
  rw [hw_bind]
  show hw P (Builtin.append_ #[sT,xT] ty #[v,s]) K h
  obtain ⟨i0,hi0⟩:∃ i,P.info? e'=some i:=by
   unfold tn at hn
   cases hi:P.info? e' with
   | none=>rw [hi] at hn; cases hn
   | some i=>exact ⟨i,rfl⟩
  have hib:i0.bytes=bytes:=by unfold tb at hby; rw [hi0] at hby; simpa using hby
  obtain ⟨z0,hz0,hzs⟩:∃ z,i0.zero=some z∧z.cells.toList=zs:=by
   unfold tz at hz; rw [hi0] at hz
   cases hzz:i0.zero with
   | none=>rw [Option.bind_some,hzz] at hz; cases hz
   | some z=>rw [Option.bind_some,hzz] at hz; exact ⟨z,rfl,by simpa using hz⟩
  have hvs:∃ base cap,v=.slice base m cap:=by
   rcases own with ⟨⟨p,rfl⟩,rfl,_⟩ | ⟨b,cap,sp,_,rfl,_⟩
   ·exact ⟨_,_,rfl⟩
   ·exact ⟨_,_,rfl⟩
  obtain ⟨base,cap,hv⟩:=hvs
  subst hv
  have hzv:∀ {Q:Value→Hp→Prop} (g:Hp),hw P (zeroValue e') Q g=Q z0 g:=fun {Q} g=>by
   unfold zeroValue; rw [hw_bind,run_info hi0]; simp only [hz0]; rfl
  simp only [Builtin.append_,List.getElem?_toArray,List.getElem?_cons_zero,List.getElem?_cons_succ,hw_bind,hw_pure,run_under hu,run_under hxT,run_sizeOf hn,Bool.false_eq_true,if_false,src.lenOf,Bool.not_false,if_true]
  by_cases hfit:m+k≤cap
  ·rw [if_pos hfit,hw_bind]
   refine run_firstCells src ?_
   have hnl:news.length=k*n:=by obtain ⟨_,_,_,hl,_⟩:=src; exact hl
   by_cases hne:news=[]
   ·subst hne
    have hsame:hw P (match base with | some a=>(do storeCells (a.add (m*n)) []; pure (Value.slice base (m+k) cap)) | none=>pure (Value.slice base (m+k) cap)) K h=K (.slice base (m+k) cap) h:=by
     cases base <;> rfl
    have hK:K (.slice base (m+k) cap) h:=by
     refine H _ _ ?_ But.refl
     rcases own with ⟨⟨p,h1⟩,h2,h3⟩ | ⟨b,cap',spare,hBb,h1,hb,hl,hsp,hmc⟩
     ·simp only [Value.slice.injEq] at h1
      obtain ⟨rfl,rfl,rfl⟩:=h1
      have hk:k=0:=by omega
      subst hk; subst h3
      exact .inl ⟨⟨_,rfl⟩,rfl,rfl⟩
     ·simp only [Value.slice.injEq] at h1
      obtain ⟨rfl,_,rfl⟩:=h1
      have hkn:k*n=0:=by simpa using hnl.symm
      refine .inr ⟨b,cap,spare,hBb,rfl,by simpa using hb,by rw [List.append_nil,hl,Nat.add_mul,hkn]; rfl,?_,hfit⟩
      rw [hsp,Nat.sub_mul,Nat.sub_mul,Nat.add_mul,hkn,Nat.add_zero]
    cases base <;> exact hK
   rcases own with ⟨⟨p,h1⟩,h2,h3⟩ | ⟨b,cap',spare,hBb,h1,hb,hl,hsp,hmc⟩
   ·simp only [Value.slice.injEq] at h1
    obtain ⟨rfl,rfl,rfl⟩:=h1
    have hk:k=0:=by omega
    subst hk
    exact (hne (List.eq_nil_of_length_eq_zero (by simpa using hnl))).elim
   ·simp only [Value.slice.injEq] at h1
    obtain ⟨rfl,_,rfl⟩:=h1
    simp only [hw_bind,addr_add]
    have hroom2:news.length≤spare.length:=by rw [hnl,hsp]; exact Nat.mul_le_mul_right _ (by omega)
    refine run_storeCells (e:=e') (lo:=0) (hi:=0) rfl (Nat.le_refl _) news 0 h (cs++spare).toArray hb ?_ hone ?_
    ·simp; rw [← hl]; omega
    ·simp only [hw_pure,Nat.zero_add,Nat.add_zero]
     refine H _ _ (.inr ⟨b,cap,spare.drop news.length,hBb,rfl,?_,?_,?_,hfit⟩) ⟨by simp,fun b' hb' hx=>?_⟩
     ·rw [Array.getElem?_setIfInBounds,if_pos rfl,if_pos (lt_of_get hb)]
      rw [← hl,lput_app,lput_zero _ _ hroom2,List.append_assoc]
     ·rw [List.length_append,hl,hnl,Nat.add_mul]
     ·rw [List.length_drop,hsp,hnl,← Nat.sub_mul]; congr 1; omega
     ·rw [Array.getElem?_setIfInBounds,if_neg]
      intro e; subst e
      have hcz:cap≠0:=by
       intro h0; subst h0
       have:k=0:=by omega
       subst this
       exact hne (List.eq_nil_of_length_eq_zero (by simpa using hnl))
      exact hx (by simp [blkOf,hcz])
  ·rw [if_neg hfit]
   have hcap:¬ Builtin.nextslicecap (m+k) cap*i0.bytes > 2 ^ 48:=by
    rw [hib]
    have:=nextcap_le (m+k) cap bytes (by omega) hroom
    omega
   have hib0:¬ i0.bytes=0:=by rw [hib]; omega
   simp only [hw_bind,run_info hi0,hib0,or_false,and_false,if_false,if_neg hcap]
   intro t
   obtain ⟨c,hc⟩:∃ c,c=Question.cut (Question.appendCap (m+k) cap e') t:=⟨_,rfl⟩
   have hcn:m+k≤c:=by rw [hc]; simp only [Question.cut]; omega
   rw [← hc]
   have hask:∀ {Q:Unit→Hp→Prop} (b:Nat) (g:Hp),Q () g→hw P (askRoom b) Q g:=fun {Q} b g q=>by
    unfold askRoom; split <;> exact q
   refine hask _ _ (run_firstCells own.sl (run_firstCells src ?_))
   rw [hzv]
   have hzc:z0.cells.size=n:=by rw [← hzn,← hzs]; simp
   refine H (.slice (some ⟨h.size,0,none⟩) (m+k) c) _ (.inr ⟨h.size,c,(Builtin.zeroCells z0.cells (c - (m+k))).toList,hB,rfl,?_,?_,?_,hcn⟩) (But.push _)
   ·rw [Array.getElem?_push_size]
    simp
   ·have hnl:news.length=k*n:=by obtain ⟨_,_,_,hl,_⟩:=src; exact hl
    have hcl:cs.length=m*n:=by obtain ⟨_,_,_,hl,_⟩:=own.sl; exact hl
    rw [List.length_append,hcl,hnl,Nat.add_mul]
   ·rw [Array.length_toList,zeroCells_size,hzc]
 ·cases hsT
def bv (x:Nat):Value:=.int .u8 x
structure Bs (h:Hp) (v:Value) (l:List Nat):Prop where
 sl:Sl 1 h v l.length (l.map bv)
 byte:∀ x∈l,x<256
structure OBs (B:Nat) (E:TypeId) (h:Hp) (v:Value) (l:List Nat):Prop where
 own:Own B E 1 h v l.length (l.map bv)
 byte:∀ x∈l,x<256
theorem OBs.bs {B:Nat} {E:TypeId} {h:Hp} {v:Value} {l:List Nat} (s:OBs B E h v l):Bs h v l:=⟨s.own.sl,s.byte⟩
theorem Bs.bel {h h':Hp} {v:Value} {l:List Nat} (s:Bs h v l) (a:Bel h.size h h'):Bs h' v l:=⟨s.sl.bel a,s.byte⟩
theorem OBs.bel {B C:Nat} {E:TypeId} {h h':Hp} {v:Value} {l:List Nat} (s:OBs B E h v l) (a:Bel C h h') (hC:h.size≤C):OBs B E h' v l:=⟨s.own.bel a hC,s.byte⟩
theorem OBs.mono {B B':Nat} {E:TypeId} {h:Hp} {v:Value} {l:List Nat} (s:OBs B E h v l) (hB:B'≤B):OBs B' E h v l:=⟨s.own.mono hB,s.byte⟩
theorem OBs.push {B:Nat} {E:TypeId} {h:Hp} {v:Value} {l:List Nat} (s:OBs B E h v l) (o:Obj):OBs B E (h.push o) v l:=⟨s.own.push o,s.byte⟩
theorem OBs.nil (B:Nat) (E:TypeId) (h:Hp):OBs B E h (.slice none 0 0) []:=⟨Own.nil B E 1 h,fun _ h=>by cases h⟩
theorem bv_one (l:List Nat):(l.map bv).all oneC=true:=by simp [bv,oneC]
theorem Bs.open {v:Value} {l:List Nat} (s:Bs h v l):∃ p cap,v=.slice p l.length cap∧(l≠[]→∃ b o,p=some ⟨b,o,none⟩∧b<h.size∧∀ i (hi:i<l.length),hc h ⟨b,o+i,none⟩=some (.int .u8 (l[i]:Nat))):=by
 obtain ⟨⟨p,cap,hv,_,hc⟩,_⟩:=s
 refine ⟨p,cap,hv,fun hne=>?_⟩
 obtain ⟨b,o,hp,hcs⟩:=hc (by simpa using hne)
 refine ⟨b,o,hp,?_,fun i hi=>?_⟩
 ·exact lt_of_hc (hcs 0 (by simpa using List.length_pos_iff.2 hne))
 ·have:=hcs i (by simpa using hi)
  simpa [bv] using this
theorem run_toString:∀ (l:List Nat) (s:ByteArray) {Q:Value→Hp→Prop},Q (.string ⟨s.data++(l.map UInt8.ofNat).toArray⟩) h →
  hw P (do
   let s ← forIn (l.map bv) s fun c (s:ByteArray)=>do
    let .int .u8 n:=c | stuck "bytesToString: byte expected"
    pure (ForInStep.yield (s.push (UInt8.ofNat n.toNat)))
   pure (Value.string s)) Q h:=by
 intro l
 induction l with
 | nil=>intro s Q H; simpa [hw_pure] using H
 | cons x l ih=>
  intro s Q H
  rw [List.map_cons,List.forIn_cons,hw_bind,hw_bind]
  show hw P _ _ h
  have:=ih (s.push (UInt8.ofNat x)) (Q:=Q) (by simpa [ByteArray.push] using H)
  rw [hw_bind] at this
  simpa [bv,hw_pure] using this
theorem conv_str {S D E:TypeId} {v:Value} {l:List Nat} (hS:P.underlying S=some (.slice E)) (hD:P.underlying D=some .string) (hE:P.underlying E=some (.int .u8)) (s:Bs h v l)
  (H:K (.string ⟨(l.map UInt8.ofNat).toArray⟩) h):vConv P S D v K h:=by
 have s0:=s.sl
 obtain ⟨⟨p,cap,rfl,hl,hc⟩,hb⟩:=s
 unfold vConv convert
 rw [hw_bind,run_under hS,hw_bind,run_under hD]
 simp only
 rw [hw_bind,run_under hE]
 unfold Conv.bytesToString
 cases p with
 | none=>
  have:l=[]:=by
   cases l with
   | nil=>rfl
   | cons x l=>obtain ⟨b,o,hp,_⟩:=hc (by simp); cases hp
  subst this
  exact H
 | some a=>
  simp only
  rw [hw_bind]
  have h1:=run_firstCells (P:=P) s0 (Q:=fun cs g=>hw P (do
   let s ← forIn cs ByteArray.empty fun c (s:ByteArray)=>do
    let .int .u8 n:=c | stuck "bytesToString: byte expected"
    pure (ForInStep.yield (s.push (UInt8.ofNat n.toNat)))
   pure (Value.string s)) K g)
  unfold Builtin.firstCells at h1
  rw [Nat.mul_one] at h1
  refine h1 ?_
  rw [List.forIn_toArray]
  exact run_toString l _ (by simpa using H)
theorem bytes_eq (l k:List Nat) (hl:∀ x∈l,x<256) (hk:∀ x∈k,x<256):((⟨(l.map UInt8.ofNat).toArray⟩:ByteArray).toList == (⟨(k.map UInt8.ofNat).toArray⟩:ByteArray).toList)=decide (l=k):=by
 have e:∀ l:List Nat,(⟨(l.map UInt8.ofNat).toArray⟩:ByteArray).toList=l.map UInt8.ofNat:=by
  intro l
  rw [ByteArray.toList_eq]
 rw [e,e,Bool.eq_iff_iff,beq_iff_eq,decide_eq_true_eq]
 constructor
 ·intro h
  have h2:(l.map UInt8.ofNat).map UInt8.toNat=(k.map UInt8.ofNat).map UInt8.toNat:=by rw [h]
  rw [List.map_map,List.map_map] at h2
  have g:∀ l:List Nat,(∀ x∈l,x<256)→l.map (UInt8.toNat ∘ UInt8.ofNat)=l:=by
   intro l hl
   conv=>rhs; rw [← List.map_id l]
   refine List.map_congr_left fun x hx=>?_
   have:=hl x hx
   simp; omega
  rwa [g l hl,g k hk] at h2
 ·intro h; rw [h]
end
attribute [go_sem] vc_skip vc_ret vc_exit vc_seq vc_cond vc_block vc_region vc_draw vc_loop nSeq_app xBlk_app xNone_app nRes_app sCond_bool sOps_nil sOps_plain sOps_guard sGuard_bool kOps_app
 vDo ev_tmp ev_const ev_global ev_func evL updo_some updo_none upd_app envL gval vPick_bool vNew_some cl vRd1_some vRdN_some vLoad_one vLoad_many vWr_some vStore_int vStore_bool vStore_slice vStore_string
 vStore_pointer vStore_map vStore_func vStore_nilFunc vStore_agg vField_some vIx_arr vIx_slice vIxA_some vExtract_tuple vNil_pointer vNil_func vCall_func
 vBin_add vBin_sub vBin_mul vBin_quo vBin_rem vBin_and vBin_or vBin_xor vBin_andNot vBin_shl vBin_shr vBin_eql vBin_neq vBin_lss vBin_leq vBin_gtr vBin_geq vUn_not vUn_neg vUn_xor vConv_int vConvI_some
 vBin_eqlS vBin_neqS vBi_lenSlice vBi_lenString vBi_min vBi_max qOps_nil qOps_plain qOps_guard qGuard_bool qK_app qR_some qEq qDo_move qDo_assign qDo_pick qPick_bool qDo_load qLoad_one qLoad_many qDo_field qField_some qDo_ix qIx_arr qIx_slice qIxA_some qDo_extract qExtract_tuple qDo_nil qNil_pointer qDo_bin qDo_un qDo_conv qDo_bi exists_ite
 resH resVals resOne Option.map_some Option.bind_some Option.isSome_some decide_eq_true_eq decide_eq_false_iff_not
attribute [go_sem] fillL_nil fillL_cons fillAt_some arrPl_app vBuild_struct vBuild_arr vBuildA_some vMade_some vBuildSlA_some vBuildSl_some vPart_true vPart_false vFld_some vIdx_arr vIdxA_some vIdx_str sb_none sb_int vSlcS_some vSlcH_some vSlcL_some vSlcL_none vSlc_slice vSlc_max vSlc3_some vSlc_arr vSlc_str
 vMk_ints vMkA_some qDo_fld qDo_idx qDo_slc qDo_build cl_agg hc_push rd_push opush_some wr1_push wr_push evP evO nth lput seqV slCells oneC List.toList_toArray List.length_cons List.length_nil List.drop_succ_cons List.drop_zero List.take_succ_cons List.take_zero List.set_cons_zero List.set_cons_succ
 List.all_cons List.all_nil Bool.and_true Array.size_push Nat.zero_add List.take_nil List.drop_nil
def vi:Value→Int | .int _ n=>n | _=>0
theorem take_snoc {α:Type} (l:List α) (i:Nat) (hi:i<l.length):l.take (i+1)=l.take i++[l[i]]:=List.take_succ_eq_append_getElem hi
def w64 (n:Int):Int:=IntKind.i64.wrap n
theorem wrap64_ite (n:Int):IntKind.i64.wrap n=if -9223372036854775808≤n∧n≤9223372036854775807 then n else w64 n:=by
 split
 ·rename_i h; exact IntWalk.i64_in n h
 ·rfl
theorem wrap_u8_mod (n:Int):IntKind.u8.wrap n=n % 256:=by simp [IntKind.wrap,IntKind.bits,IntKind.signed]
theorem wrap_u32_mod (n:Int):IntKind.u32.wrap n=n % 4294967296:=by simp [IntKind.wrap,IntKind.bits,IntKind.signed]
theorem wrap_u64_mod (n:Int):IntKind.u64.wrap n=n % 18446744073709551616:=by simp [IntKind.wrap,IntKind.bits,IntKind.signed]
attribute [go_sem] wrap64_ite wrap_u8_mod wrap_u32_mod wrap_u64_mod true_and and_true ne_eq not_true_eq_false not_false_eq_true decide_true decide_false Bool.false_eq_true Int.toNat_natCast Nat.mul_one
theorem ofInt_nat (w a:Nat):BitVec.ofInt w (a:Int)=BitVec.ofNat w a:=by
 apply BitVec.eq_of_toNat_eq
 simp [BitVec.toNat_ofNat]
theorem wrap_nat (k:IntKind) (n:Nat) (h:n<2 ^ (if k.signed then k.bits - 1 else k.bits)):k.wrap (n:Int)=n:=by
 cases k <;> simp [IntKind.wrap,IntKind.bits,IntKind.signed] at h ⊢ <;> omega
theorem bitOp_and (k:IntKind) (a b:Nat) (ha:a<2 ^ (if k.signed then k.bits - 1 else k.bits)) (hb:b<2 ^ (if k.signed then k.bits - 1 else k.bits)):bitOp .and k a b=((a &&& b:Nat):Int):=by
 have hle:2 ^ (if k.signed then k.bits - 1 else k.bits)≤2 ^ k.bits:=Nat.pow_le_pow_right (by omega) (by split <;> omega)
 simp only [bitOp,ofInt_nat]
 rw [BitVec.toNat_and,BitVec.toNat_ofNat,BitVec.toNat_ofNat,Nat.mod_eq_of_lt (by omega),Nat.mod_eq_of_lt (by omega)]
 exact wrap_nat k _ (Nat.lt_of_le_of_lt Nat.and_le_left ha)
theorem bitOp_or (k:IntKind) (a b:Nat) (ha:a<2 ^ (if k.signed then k.bits - 1 else k.bits)) (hb:b<2 ^ (if k.signed then k.bits - 1 else k.bits)):bitOp .or k a b=((a ||| b:Nat):Int):=by
 have hle:2 ^ (if k.signed then k.bits - 1 else k.bits)≤2 ^ k.bits:=Nat.pow_le_pow_right (by omega) (by split <;> omega)
 simp only [bitOp,ofInt_nat]
 rw [BitVec.toNat_or,BitVec.toNat_ofNat,BitVec.toNat_ofNat,Nat.mod_eq_of_lt (by omega),Nat.mod_eq_of_lt (by omega)]
 exact wrap_nat k _ (Nat.or_lt_two_pow ha hb)
theorem bitOp_xor (k:IntKind) (a b:Nat) (ha:a<2 ^ (if k.signed then k.bits - 1 else k.bits)) (hb:b<2 ^ (if k.signed then k.bits - 1 else k.bits)):bitOp .xor k a b=((a ^^^ b:Nat):Int):=by
 have hle:2 ^ (if k.signed then k.bits - 1 else k.bits)≤2 ^ k.bits:=Nat.pow_le_pow_right (by omega) (by split <;> omega)
 simp only [bitOp,ofInt_nat]
 rw [BitVec.toNat_xor,BitVec.toNat_ofNat,BitVec.toNat_ofNat,Nat.mod_eq_of_lt (by omega),Nat.mod_eq_of_lt (by omega)]
 exact wrap_nat k _ (Nat.xor_lt_two_pow ha hb)
theorem and_u8 (a b:Nat) (ha:a<256) (hb:b<256):bitOp .and .u8 a b=((a &&& b:Nat):Int):=bitOp_and .u8 a b ha hb
theorem or_u8 (a b:Nat) (ha:a<256) (hb:b<256):bitOp .or .u8 a b=((a ||| b:Nat):Int):=bitOp_or .u8 a b ha hb
theorem xor_u8 (a b:Nat) (ha:a<256) (hb:b<256):bitOp .xor .u8 a b=((a ^^^ b:Nat):Int):=bitOp_xor .u8 a b ha hb
theorem and_u32 (a b:Nat) (ha:a<4294967296) (hb:b<4294967296):bitOp .and .u32 a b=((a &&& b:Nat):Int):=bitOp_and .u32 a b ha hb
theorem or_u32 (a b:Nat) (ha:a<4294967296) (hb:b<4294967296):bitOp .or .u32 a b=((a ||| b:Nat):Int):=bitOp_or .u32 a b ha hb
theorem xor_u32 (a b:Nat) (ha:a<4294967296) (hb:b<4294967296):bitOp .xor .u32 a b=((a ^^^ b:Nat):Int):=bitOp_xor .u32 a b ha hb
theorem and_u64 (a b:Nat) (ha:a<18446744073709551616) (hb:b<18446744073709551616):bitOp .and .u64 a b=((a &&& b:Nat):Int):=bitOp_and .u64 a b ha hb
theorem or_u64 (a b:Nat) (ha:a<18446744073709551616) (hb:b<18446744073709551616):bitOp .or .u64 a b=((a ||| b:Nat):Int):=bitOp_or .u64 a b ha hb
theorem and_i64 (a b:Nat) (ha:a<9223372036854775808) (hb:b<9223372036854775808):bitOp .and .i64 a b=((a &&& b:Nat):Int):=bitOp_and .i64 a b ha hb
theorem or_i64 (a b:Nat) (ha:a<9223372036854775808) (hb:b<9223372036854775808):bitOp .or .i64 a b=((a ||| b:Nat):Int):=bitOp_or .i64 a b ha hb
theorem shr_nat (k:IntKind) (a n:Nat) (hn:n≤k.bits):shrOp k a n=((a >>> n:Nat):Int):=by
 simp only [shrOp,Int.toNat_natCast,Nat.min_eq_left hn]
 rw [Int.fdiv_eq_ediv_of_nonneg _ (Int.le_of_lt (Int.pow_pos (by omega))),Nat.shiftRight_eq_div_pow]
 simp
theorem shl_nat (k:IntKind) (a n:Nat) (hn:n≤k.bits):shlOp k a n=k.wrap ((a*2 ^ n:Nat):Int):=by
 simp only [shlOp,Int.toNat_natCast,Nat.min_eq_left hn]
 simp
theorem xor_zero_iff (a b:Nat):a ^^^ b=0↔a=b:=by
 constructor
 ·intro h
  have h2:a ^^^ b ^^^ b=0 ^^^ b:=by rw [h]
  rwa [Nat.xor_assoc,Nat.xor_self,Nat.xor_zero,Nat.zero_xor] at h2
 ·intro h; subst h; exact Nat.xor_self a
theorem or_zero_iff (a b:Nat):a ||| b=0↔a=0∧b=0:=by
 simp
open Go.ChangeShapes Go.WideShapes Go.ChangeAt Go.RowKit
def fit (P:Program) (h:Hp):Nat→TypeId→List Value→Prop
 | 0,_,_=>False
 | k+1,t,cs=>
  match P.underlying t with
  | some .bool=>∃ b,cs=[.bool b]
  | some (.int i)=>∃ n,cs=[.int i n]∧(Lit.int i n).wf=true
  | some .string=>∃ s,cs=[.string s]∧s.size≤reachBytes
  | some (.slice e)=>∃ p len cap,cs=[.slice p len cap]∧len≤cap∧cap*P.bytesOf e≤reachBytes ∧
    (len≠0→P.cellsOf e≠0→∃ b o,p=some ⟨b,o,none⟩∧b<h.size∧∀ i,i<len→∃ ds,ds.length=P.cellsOf e∧cellsAt h b (o+i*P.cellsOf e) ds∧fit P h k e ds)
  | some (.struct fs)=>cs.length=P.cellsOf t∧∀ f∈fs.toList,fit P h k f.type ((cs.drop f.offset).take (P.cellsOf f.type))
  | some (.array n e)=>cs.length=P.cellsOf t∧∀ i,i<n→fit P h k e ((cs.drop (i*P.cellsOf e)).take (P.cellsOf e))
  | _=>True
def fitV (P:Program) (h:Hp) (k:Nat) (t:TypeId) (v:Value):Prop:=
 match ta P t with
 | some true=>∃ cs:List Value,v=.agg cs.toArray∧fit P h k t cs
 | _=>fit P h k t [v]
def fitAll (P:Program) (h:Hp):List TypeId→List Value→Prop
 | [],[]=>True
 | t :: ts,v :: vs=>(∃ k,fitV P h k t v)∧fitAll P h ts vs
 | _,_=>False
theorem mapM_get {α β:Type} {f:α→Option β}:∀ {l:List α} {r:List β},l.mapM f=some r→r.length=l.length∧∀ (i:Nat) (x:α) (y:β),l[i]? = some x→r[i]? = some y→f x=some y
 | [],r,h=>by
  simp only [List.mapM_nil,pure,Option.some.injEq] at h
  subst h
  exact ⟨rfl,fun i x y hx _=>by simp at hx⟩
 | a :: l,r,h=>by
  rw [List.mapM_cons] at h
  cases ha:f a with
  | none=>rw [ha] at h; cases h
  | some b=>
   rw [ha] at h
   cases hl:l.mapM f with
   | none=>simp [hl] at h
   | some bs=>
    simp [hl] at h
    subst h
    obtain ⟨h1,h2⟩:=mapM_get hl
    refine ⟨by simp [h1],fun i x y hx hy=>?_⟩
    cases i with
    | zero=>simp at hx hy; subst hx; subst hy; exact ha
    | succ i=>simp at hx hy; exact h2 i x y hx hy
theorem cells_some {w:World} {base:Nat} {a:Addr} {n:Nat} {ds:List Value} (h:w.cells? base a n=some ds):ds.length=n∧∀ i (hi:i<ds.length),w.cell? (a.add i)=some ds[i]:=by
 unfold World.cells? at h
 split at h
 ·obtain ⟨h1,h2⟩:=mapM_get h
  rw [List.length_range] at h1
  refine ⟨h1,fun i hi=>h2 i i ds[i] ?_ ?_⟩
  ·rw [List.getElem?_range (by omega)]
  ·exact List.getElem?_eq_getElem hi
 ·cases h
theorem spot_none {w:World} {a:Addr} {i:Nat} {v:Value} (h:w.cell? (a.add i)=some v) (hi:i=0):a.spot=none:=by
 subst hi
 have e:a.add 0=a:=by simp [Addr.add]
 rw [e] at h
 unfold World.cell? at h
 split at h
 ·split at h
  ·cases h
  ·rename_i hs; simpa using hs
 ·cases h
theorem weightsEach_get {H:Type} {P:Program} {q:Nat→Bool}:∀ (ts:List TypeId) (ds:List (DataW H)),(DataW.weightsEach P ts ds).all q=true→∀ (i:Nat) (t:TypeId) (d:DataW H),ts[i]? = some t→ds[i]? = some d→(d.weights P t).all q=true
 | [],_,_,i,t,d,ht,_=>by simp at ht
 | t :: ts,[],_,i,t',d,_,hd=>by simp at hd
 | t :: ts,d :: ds,h,i,t',d',ht,hd=>by
  simp only [DataW.weightsEach,List.all_append,Bool.and_eq_true] at h
  cases i with
  | zero=>simp at ht hd; subst ht; subst hd; exact h.1
  | succ i=>simp at ht hd; exact weightsEach_get ts ds h.2 i t' d' ht hd
theorem weightsAll_get {H:Type} {P:Program} {e:TypeId} {q:Nat→Bool}:∀ (ds:List (DataW H)),(DataW.weightsAll P e ds).all q=true→∀ (i:Nat) (d:DataW H),ds[i]? = some d→(d.weights P e).all q=true
 | [],_,i,d,hd=>by simp at hd
 | d :: ds,h,i,d',hd=>by
  simp only [DataW.weightsAll,List.all_append,Bool.and_eq_true] at h
  cases i with
  | zero=>simp at hd; subst hd; exact h.1
  | succ i=>simp at hd; exact weightsAll_get ds h.2 i d' hd
theorem fit_of_trod {H:Type} {enc:TypeId × Value→H} {P:Program} {w:World}:∀ (k:Nat) (t:TypeId) (cs:List Value) (d:DataW H) (ps:List MemPlace),
  DataW.trod enc P w 0 (fun _=>true) true k t cs=some (d,ps)→(d.weights P t).all (· ≤ reachBytes)=true→fit P w.heap k t cs
 | 0,t,cs,d,ps,h,_=>by simp [DataW.trod] at h
 | k+1,t,cs,d,ps,h,hw=>by
  unfold DataW.trod at h
  unfold fit
  split at h
  ·rename_i hu; rw [hu]; exact ⟨_,rfl⟩
  ·rename_i i i' n hu
   rw [hu]
   split at h
   ·rename_i hc; obtain ⟨rfl,hc⟩:=hc; exact ⟨_,rfl,hc⟩
   ·cases h
  ·rename_i hu; rw [hu]; trivial
  ·rename_i s hu
   rw [hu]
   split at h
   ·simp only [Option.some.injEq,Prod.mk.injEq] at h
    obtain ⟨rfl,_⟩:=h
    refine ⟨_,rfl,?_⟩
    simpa [DataW.weights] using hw
   ·cases h
  ·rename_i hu; rw [hu]; trivial
  ·rename_i hu; rw [hu]; trivial
  ·rename_i e hu
   rw [hu]
   exact ⟨_,_,_,rfl,Nat.le_refl _,by simp,fun h=>(h rfl).elim⟩
  ·rename_i e a len cap hu
   rw [hu]
   split at h
   ·rename_i hcond
    simp only [if_true] at h
    cases he:((List.range len).mapM fun i=>(w.cells? 0 (a.add (i*P.cellsOf e)) (P.cellsOf e)).bind (DataW.trod enc P w 0 (fun _=>true) true k e)) with
    | none=>rw [he] at h; cases h
    | some elems=>
     rw [he] at h
     simp only [Option.bind_some] at h
     cases hr:((List.range (cap - len)).mapM fun j=>(w.cells? 0 (a.add ((len+j)*P.cellsOf e)) (P.cellsOf e)).bind (DataW.trod enc P w 0 (fun _=>true) true k e)) with
     | none=>rw [hr] at h; cases h
     | some rest=>
      rw [hr] at h
      simp only [Option.map_some,Option.some.injEq,Prod.mk.injEq] at h
      obtain ⟨rfl,_⟩:=h
      obtain ⟨l1,g1⟩:=mapM_get he
      obtain ⟨l2,_⟩:=mapM_get hr
      rw [List.length_range] at l1 l2
      simp only [DataW.weights,hu,List.all_cons,List.all_append,Bool.and_eq_true,List.length_map,decide_eq_true_eq] at hw
      refine ⟨_,_,_,rfl,hcond.2.1,?_,fun hlen hce=>?_⟩
      ·have:elems.length+rest.length=cap:=by omega
       rw [← this]; exact hw.1
      ·have getE:∀ i,i<len→∃ ds x,w.cells? 0 (a.add (i*P.cellsOf e)) (P.cellsOf e)=some ds∧elems[i]? = some x∧DataW.trod enc P w 0 (fun _=>true) true k e ds=some x:=by
        intro i hi
        have hx:elems[i]? = some elems[i]:=List.getElem?_eq_getElem (by omega)
        have:=g1 i i elems[i] (by rw [List.getElem?_range hi]) hx
        cases hc:w.cells? 0 (a.add (i*P.cellsOf e)) (P.cellsOf e) with
        | none=>rw [hc] at this; cases this
        | some ds=>rw [hc] at this; exact ⟨ds,_,rfl,hx,this⟩
       obtain ⟨ds0,x0,hc0,_,_⟩:=getE 0 (by omega)
       obtain ⟨q1,q2⟩:=cells_some hc0
       have e0:a.add (0*P.cellsOf e)=a:=by simp [Addr.add]
       rw [e0] at q2
       have hsp:a.spot=none:=spot_none (q2 0 (by omega)) rfl
       have hcell0:w.cell? a=some ds0[0]:=by have:=q2 0 (by omega); simpa [Addr.add] using this
       have hlt:a.block<w.heap.size:=lt_of_hc (h:=w.heap) (p:=a) (v:=ds0[0]) hcell0
       refine ⟨a.block,a.off,?_,hlt,fun i hi=>?_⟩
       ·obtain ⟨b,o,s⟩:=a; simp only at hsp; subst hsp; rfl
       ·obtain ⟨ds,x,hc,hx,ht⟩:=getE i hi
        obtain ⟨r1,r2⟩:=cells_some hc
        refine ⟨ds,r1,fun j hj=>?_,?_⟩
        ·have:=r2 j hj
         rw [addr_add' a _ hsp,addr_add] at this
         exact this
        ·refine fit_of_trod k e ds x.1 x.2 ht ?_
         exact weightsAll_get _ hw.2.1 i x.1 (by rw [List.getElem?_map,hx]; rfl)
   ·cases h
  ·rename_i cs _ _ fs hu
   rw [hu]
   split at h
   ·rename_i hlen
    cases hm:(fs.toList.mapM fun f=>DataW.trod enc P w 0 (fun _=>true) true k f.type ((cs.drop f.offset).take (P.cellsOf f.type))) with
    | none=>rw [hm] at h; cases h
    | some xs=>
     rw [hm] at h
     simp only [Option.map_some,Option.some.injEq,Prod.mk.injEq] at h
     obtain ⟨rfl,_⟩:=h
     obtain ⟨l1,g1⟩:=mapM_get hm
     refine ⟨hlen,fun f hf=>?_⟩
     obtain ⟨i,hi,hfi⟩:=List.mem_iff_getElem.1 hf
     have hx:xs[i]? = some xs[i]:=List.getElem?_eq_getElem (by omega)
     have hfi':fs.toList[i]? = some f:=by rw [List.getElem?_eq_getElem hi,hfi]
     refine fit_of_trod k _ _ xs[i].1 xs[i].2 (g1 i f xs[i] hfi' hx) ?_
     simp only [DataW.weights,hu] at hw
     exact weightsEach_get _ _ hw i f.type xs[i].1 (by rw [List.getElem?_map,hfi']; rfl) (by rw [List.getElem?_map,hx]; rfl)
   ·cases h
  ·rename_i cs _ _ n e hu
   rw [hu]
   split at h
   ·rename_i hlen
    cases hm:((List.range n).mapM fun i=>DataW.trod enc P w 0 (fun _=>true) true k e ((cs.drop (i*P.cellsOf e)).take (P.cellsOf e))) with
    | none=>rw [hm] at h; cases h
    | some xs=>
     rw [hm] at h
     simp only [Option.map_some,Option.some.injEq,Prod.mk.injEq] at h
     obtain ⟨rfl,_⟩:=h
     obtain ⟨l1,g1⟩:=mapM_get hm
     rw [List.length_range] at l1
     refine ⟨hlen,fun i hi=>?_⟩
     have hx:xs[i]? = some xs[i]:=List.getElem?_eq_getElem (by omega)
     refine fit_of_trod k _ _ xs[i].1 xs[i].2 (g1 i i xs[i] (by rw [List.getElem?_range hi]) hx) ?_
     simp only [DataW.weights,hu] at hw
     exact weightsAll_get _ hw i xs[i].1 (by rw [List.getElem?_map,hx]; rfl)
   ·cases h
  all_goals first | (cases h; done) | (rename_i hu; rw [hu]; trivial)
theorem not_agg {P:Program} {w:World} {r:Reach} {base:Nat} {t:TypeId} {cs:Array Value} (ha:ta P t=some false) (h:Value.okWide P w r base t (.agg cs)):False:=by
 unfold ta at ha
 unfold Value.okWide at h
 cases hu:P.underlying t with
 | none=>rw [hu] at ha; cases ha
 | some d=>
  rw [hu] at ha h
  cases d <;> simp at ha <;> simp [Cell.okWide,Cell.ok,hu] at h
theorem fitV_of {H:Type} {enc:TypeId × Value→H} {P:Program} {w:World} {r:Reach} {base:Nat} {t:TypeId} {v:Value} {d:DataW H} {ps:List MemPlace}
  (hta:(ta P t).isSome=true) (hok:Value.okWide P w r base t v) (h:DataW.Trod enc P w 0 (fun _=>true) true t v d ps) (hw:(d.weights P t).all (· ≤ reachBytes)=true):∃ k,fitV P w.heap k t v:=by
 obtain ⟨k,hk⟩:=h
 have hf:=fit_of_trod k t _ d ps hk hw
 refine ⟨k,?_⟩
 unfold fitV
 cases ha:ta P t with
 | none=>rw [ha] at hta; cases hta
 | some b=>
  cases b with
  | true=>
   unfold ta at ha
   unfold Value.okWide at hok
   cases hu:P.underlying t with
   | none=>rw [hu] at ha; cases ha
   | some d'=>
    rw [hu] at ha hok
    have:∃ cs,v=.agg cs:=by
     cases d' <;> simp at ha <;> (obtain ⟨cs,hv,_⟩:=hok; exact ⟨cs,hv⟩)
    obtain ⟨cs,rfl⟩:=this
    exact ⟨cs.toList,by simp,hf⟩
  | false=>
   have:v.cells.toList=[v]:=by
    cases v with
    | agg cs=>exact (not_agg ha hok).elim
    | _=>rfl
   rw [this] at hf
   exact hf
theorem fitAll_of {H:Type} {enc:TypeId × Value→H} {P:Program} {w:World} {base:Nat}:∀ (ts:List TypeId) (vs:List Value) (ds:List (DataW H)) (ps:List MemPlace),
  ts.all (fun t=>(ta P t).isSome)=true→(∀ (j:Nat) t v,ts[j]? = some t→vs[j]? = some v→Value.okWide P w .any base t v)→DataW.TrodAll enc P w 0 (fun _=>true) true ts vs ds ps →
  (DataW.weightsEach P ts ds).all (· ≤ reachBytes)=true→fitAll P w.heap ts vs
 | [],vs,ds,ps,_,_,h,_=>by
  obtain ⟨rfl,rfl,rfl⟩:=trodAll_nil h
  trivial
 | t :: ts,vs,ds,ps,ha,hv,h,hw=>by
  obtain ⟨v,vs',d,ds',p,q,rfl,rfl,rfl,h1,h2⟩:=trodAll_cons h
  simp only [List.all_cons,Bool.and_eq_true] at ha
  simp only [DataW.weightsEach,List.all_append,Bool.and_eq_true] at hw
  exact ⟨fitV_of ha.1 (hv 0 t v rfl rfl) h1 hw.1,fitAll_of ts vs' ds' q ha.2 (fun j t v ht hv'=>hv (j+1) t v ht hv') h2 hw.2⟩
theorem trodAll_stays {H:Type} {enc:TypeId × Value→H} {P:Program} (hl:laidOutB P=true) {W W':World} (hb:Below W.heap.size W W'):∀ (ts:List TypeId) (vs:List Value) (ds:List (DataW H)) (ps:List MemPlace),
  ts.all (fun t=>P.readableRec t && decide (t<P.types.size))=true→DataW.TrodAll enc P W 0 (fun _=>true) true ts vs ds ps→(∀ x∈ps,x.block<W.heap.size) →
  DataW.TrodAll enc P W' 0 (fun b=>decide (b<W.heap.size)) true ts vs ds ps
 | [],vs,ds,ps,_,h,_=>by
  obtain ⟨rfl,rfl,rfl⟩:=trodAll_nil h
  rfl
 | t :: ts,vs,ds,ps,ha,h,hlt=>by
  obtain ⟨v,vs',d,ds',p,q,rfl,rfl,rfl,h1,h2⟩:=trodAll_cons h
  simp only [List.all_cons,Bool.and_eq_true,decide_eq_true_eq] at ha
  exact ⟨p,q,Below.trod hl ha.1.1 ha.1.2 h1 hb (fun x hx=>hlt x (by simp [hx])),trodAll_stays hl hb ts vs' ds' q ha.2 h2 (fun x hx=>hlt x (by simp [hx])),rfl⟩
theorem trodAll_length {H:Type} {enc:TypeId × Value→H} {P:Program} {w:World} {b:Nat} {sp:Nat→Bool} {hd:Bool}:∀ (ts:List TypeId) (vs:List Value) (ds:List (DataW H)) (ps:List MemPlace),DataW.TrodAll enc P w b sp hd ts vs ds ps→ds.length=ts.length
 | [],vs,ds,ps,h=>by obtain ⟨rfl,rfl,rfl⟩:=trodAll_nil h; rfl
 | t :: ts,vs,ds,ps,h=>by
  obtain ⟨v,vs',d,ds',p,q,rfl,rfl,rfl,h1,h2⟩:=trodAll_cons h
  simp [trodAll_length ts vs' ds' q h2]
theorem below_of {W W':World} {h':Hp} (hs:Sees W W' h') (hb:Bel W.heap.size W.heap h'):Below W.heap.size W W':=
 ⟨hs.os,hs.tape,hs.output,by rw [hs.heap]; exact hb.size,fun k hk=>by rw [hs.heap]; exact hb.block k hk⟩
theorem cut_make {P:Program} {rest:List (List Char)} (h:behindMainWord (wordsSigns P.initOrder.toList) = "cut".toList :: rest):P.make=some .cut:=by
 unfold Program.make
 rw [h]
 simp only
 rw [if_neg (by decide),if_pos (by rfl)]
theorem strip_cut (rest:List (List Char)):stripLifts liftWords ("cut".toList :: rest)=([], "cut".toList :: rest):=by rfl
theorem cut_lifts {P:Program} {rest:List (List Char)} (h:behindMainWord (wordsSigns P.initOrder.toList) = "cut".toList :: rest):P.liftsFinal=false:=by
 unfold Program.liftsFinal Program.headLifts
 rw [h,strip_cut]
 rfl
theorem cut_enter {P:Program} {rest:List (List Char)} (h:behindMainWord (wordsSigns P.initOrder.toList) = "cut".toList :: rest) (h1:P.laysLater=false) (h2:P.bearsReflect=false) (h3:P.doorFits []=true):P.mayEnter=true:=by
 unfold Program.mayEnter
 rw [h]
 simp only [strip_cut,h1,h2,h3]
 rw [Bool.or_eq_true]
 exact .inr rfl
theorem cut_words {P:Program} {L:List Char} (h:P.initOrder=String.ofList L) (h2:((behindMainWord (wordsSigns L)).head? == some "cut".toList)=true):∃ rest,behindMainWord (wordsSigns P.initOrder.toList) = "cut".toList :: rest:=by
 rw [h,String.toList_ofList]
 revert h2
 cases behindMainWord (wordsSigns L) with
 | nil=>intro h; cases h
 | cons a l=>
  intro h
  have h':a = "cut".toList:=by
   have:=eq_of_beq h
   simpa using this
  exact ⟨l,by rw [h']⟩
end Go.V
