/- Part V9. -/
import Derived.Calls
import Derived.OrdersHeld
import Derived.Still
import Derived.Tactics
import Derived.Laws.Sem
import Derived.KernelRfl
import Derived.IntWalk
import Derived.Laws.Strings
import Derived.WalkKit
import Derived.ProofKit
import Derived.OpenShut
import Derived.SizedLaws
import Derived.JoinedCond
import Derived.Deep.CondSized
import Derived.Carry
open Go.Value renaming pointer→J,slice→aa,bool→al,agg→aC
open Go.Obj renaming cells→ae
open List renaming length→M,toArray→Y,getElem?_eq_getElem→aL,eq_nil_of_length_eq_zero→aW,range→a3,all_cons→a6,all_append→a8,length_pos_iff→a9,mapM_cons→bb,length_range→bg,all_eq_true→bh,getElem?_cons_zero→bl,getElem?_cons_succ→bn,getElem?_toArray→bq,set_cons_zero→bA,set_cons_succ→bE,mapM_toArray→bK,length_cons→bR,range'→bS,map_cons→bY
open Nat renaming mul_le_mul_right→aV,pow_le_pow_right→a7,le_refl→bT,ble→b0
open Option renaming bind_some→aw,map_some→aF,some→G,none→U
open Array renaming setIfInBounds→Z,getElem?_eq_some_iff→aI,getElem?_setIfInBounds→a1,toList_map→a4,getD_eq_getD_getElem?→ba,toList_setIfInBounds→bc,range→bd,toList_inj→bk,getElem?_toList→bp,getElem?_push→bw,replicate→bW,zipIdx→b1
open Bool renaming and_eq_true→ax,false_eq_true→aX
open Go.IntWalk renaming i64_in→bt
open Go.Builtin renaming nextslicecap→aS,growBy→a2,zeroCells→bf,append_→bo,len_→b2
open Go.Region renaming ready→a0,wanted→a5,noSelect_spec→br,binds→bG,free_spec→bN,noSelect→bV
open Go renaming Value→D,TypeId→O,Program→ak,World→am,Operand→aH
namespace Go.V
theorem aag{α:Type _}{a b:α}(h:Option.some a=Option.some b):a=b:=Option.some.inj h
theorem uh{p:Prop}(h:p:=by omega):p:=h
theorem zI{p:Prop}(h:p:=by kernel_rfl):p:=h
theorem zK{p:Prop}(h:p:=by grind):p:=h
theorem zX{p:Prop}(h:p:=by simp):p:=h
theorem Fo{p:Prop}(h:p:=by simp;omega):p:=h
theorem HE{p:Prop}(h:p:=by decide):p:=h
theorem HS{p:Prop}(h:p:=by rintro t rfl;simp[Tg.of]):p:=h
theorem aaa{p:Prop}(h:p:=by first|omega|(simp;omega)):p:=h
theorem aab{p:Prop}(h:p:=by rintro t (rfl|rfl)<;>simp[Tg.of]):p:=h
theorem aac{p:Prop}(h:p:=by rw[List.length_take];omega):p:=h
theorem aad{p:Prop}(h:p:=by assumption):p:=h
theorem aae{p:Prop}(h:p:=by rw[List.length_append];omega):p:=h
theorem aaf{p:Prop}(h:p:=by repeat' (first|exact Zm.refl _ _|assumption|refine Zm.add ?_ _|refine Zm.ZA ?_ (by first|omega|(simp;omega)) _|refine Zm.trans (by assumption) ?_)):p:=h
variable{B b cap i len m n o:Nat}{E e t:O}{P:ak}{a:Addr}{cs l:List D}{d:Option Tmp}{k:IntKind}{lo:Option D}{ops:List Oper}{parts:List (Nat × D)}{place:Nat->Option (Nat × Nat)}{v:D}{x y:aH}{α:Type}
theorem ZO(x:α):∃y,y=x:=⟨x,rfl⟩
abbrev Env:=Nat->D
def upd(F:Env)(d:Nat)(v:D):Env:=fun t=>if t=d then v else F t
def Y5(F:Env):Option Nat->D->Env
 | none,_=>F
 | some d,v=>upd F d v
def ev(F:Env):aH->D
 | .tmp t=>F t
 | .const v=>v
 | .global g=>J (G ⟨g,0,U⟩)
 | .func f=>.func (.func f) #[] #[]
def G6:List D->Nat->Env
 | [],_=>fun _=>undef
 | v :: l,k=>upd (G6 l (k+1)) k v
def env(a:Act):Env:=fun t=>a.tmps.getD t undef
theorem dC(a:Act):a.eval=ev (env a):=by
 funext x;cases x<;>rfl
theorem Fp(a:Act)(dst:Option Nat)(v:D)(h:∀d,dst=G d->d<a.tmps.size):env (a.put dst v)=Y5 (env a) dst v:=by
 cases dst with
 | none=>rfl
 | some d=>
  funext t
  have c:=h d rfl;simp only[env,Act.put,Y5,upd,ba,a1]
  grind
theorem LZ(a:Act)(dst:Option Nat)(v:D):(a.put dst v).tmps.size=a.tmps.size:=by
 cases dst<;>simp[Act.put]
abbrev Hp:=Array Obj
variable{N:Env->Hp->Prop}{Q:D->Hp->Prop}{h h':Hp}
structure Vz(T:am)(w:am)(h:Hp):Prop where
 heap:w.heap=h
 tape:w.tape=T.tape
 os:w.os=T.os
 output:w.output=T.output
def hc(h:Hp)(a:Addr):Option D:=
 match h[a.block]? with
 | some (ae c _ _)=>if a.spot.isSome then U else c[a.off]?
 | _=>U
def TQ(h:Hp)(r:Nat):Option (O × Nat):=
 match h[r]? with
 | some (ae c elem _)=>G (elem,c.size)
 | _=>U
def qw(h:Hp)(a:Addr):Bool:=
 match h[a.block]? with
 | some (ae _ _ (lo,hi))=>lo<=a.off&&a.off<hi
 | _=>false
def ui(h:Hp)(a:Addr)(v:D):Hp:=
 h.modify a.block fun
  | ae c elem frozen=>ae (if a.spot.isSome then c else Z c a.off v) elem frozen
  | o=>o
def Oc(h:Hp)(a:Addr)(n:Nat):Hp:=
 if n=0 then h else
 h.modify a.block fun
  | ae c elem (lo,hi)=>ae c elem (if lo == hi then (a.off,a.off+n) else (min lo a.off,max hi (a.off+n)))
  | o=>o
def Fq:Obj->Bool
 | .cells .. => true
 | _=>false
def YV:D->Bool
 | aC _|.tuple _=>false
 | _=>true
def hw{α:Type}(P:ak):Sem α->(α->Hp->Prop)->Hp->Prop
 | .pure a,Q,h=>Q a h
 | .load _ a k,Q,h=>∃v,hc h a=G v/\hw P (k v) Q h
 | .store _ a v k,Q,h=>YV v=true/\(∃u,hc h a=G u)/\qw h a=false/\hw P k Q (ui h a v)
 | .new o k,Q,h=>hw P (k h.size) Q (h.push o)
 | .shape r k,Q,h=>hw P (k (TQ h r)) Q h
 | .freeze a n k,Q,h=>hw P k Q (Oc h a n)
 | .frozen a k,Q,h=>hw P (k (qw h a)) Q h
 | .getObj r k,Q,h=>∃o,h[r]? = G o/\Fq o=false/\hw P (k o) Q h
 | .setObj r o k,Q,h=>(∃c,h[r]? = G c/\Fq c=false)/\hw P k Q (Z h r o)
 | .choose q k,Q,h=>if q.forced then hw P (k 0) Q h else ∀t,hw P (k (q.cut t)) Q h
 | .sys _ _,_,_=>False
 | .program k,Q,h=>hw P (k P) Q h
 | .mark _ k,Q,h=>hw P k Q h
 | .halt _,_,_=>False
theorem zY{T:am}:∀(s:Sem α) (Q:α->Hp->Prop) (h:Hp),hw P s Q h->∀w,Vz T w h ->
  ∃a j h',s.run P w=.ok a j/\Vz T j h'/\Q a h':=by
 intro s
 induction s with
 | pure a=>intro Q h H w f;exact⟨a,w,h,rfl,f,H⟩
 | load m a k g=>
  intro Q h H w f
  grind [hc,hw,Go.World.cell?.eq_1,Vz.heap,Go.Sem.run.eq_2]
 | store m a v k g=>
  intro Q h H w f;let⟨L,⟨u,I⟩,h3,H⟩:=H;have z:Vz T (w.setCell a v) (ui h a v):=⟨by simp only[World.setCell,ui,f.heap];rfl,f.tape,f.os,f.output⟩
  let⟨p,j,h',hr,r⟩:=g Q _ H _ z;refine⟨p,j,h',?_,r⟩;have V:w.cell? a=G u:=by rw[World.cell?,f.heap];exact I
  have S:w.frozen? a=false:=by rw[World.frozen?,f.heap];exact h3
  cases v<;>first|(simp[YV]at L;done)|(simp only[Sem.run,V,S,aX,if_false];exact hr)
 | new o k g=>
  intro Q h H w f;have z:Vz T { w with heap:=w.heap.push o } (h.push o):=⟨by simp only[f.heap],f.tape,f.os,f.output⟩
  have e:w.heap.size=h.size:=by rw[f.heap]
  let⟨p,j,h',hr,r⟩:=g h.size Q _ H _ z
  grind [Go.Sem.run.eq_6]
 | shape r k g=>
  intro Q h H w f;let⟨p,j,h',hr,r'⟩:=g _ Q h H w f
  grind [TQ,Go.World.shape?.eq_1,Vz.heap,Go.Sem.run.eq_7]
 | freeze a n k g=>
  intro Q h H w f;have z:Vz T (w.freeze a n) (Oc h a n):=by
   unfold World.freeze Oc;split
   .exact f
   .exact⟨by simp only[f.heap];rfl,f.tape,f.os,f.output⟩
  let⟨p,j,h',hr,r'⟩:=g Q _ H _ z;exact⟨p,j,h',by rw[Sem.run];exact hr,r'⟩
 | frozen a k g=>
  intro Q h H w f;let⟨p,j,h',hr,r'⟩:=g _ Q h H w f
  grind [qw,Go.World.frozen?.eq_1,Vz.heap,Go.Sem.run.eq_9]
 | getObj r k g=>
  intro Q h H w f
  grind [Fq,hw,Vz.heap,Go.Sem.run.eq_10]
 | setObj r o k g=>
  intro Q h H w f;let⟨⟨A,C,hc⟩,H⟩:=H;have z:Vz T { w with heap:=Z w.heap r o } (Z h r o):=⟨by simp only[f.heap],f.tape,f.os,f.output⟩
  let⟨p,j,h',hr,r'⟩:=g Q _ H _ z;refine⟨p,j,h',?_,r'⟩;have e:w.heap[r]? = G A:=by rw[f.heap];exact C
  simp only[Sem.run,e]
  grind [Fq]
 | choose q k g=>
  intro Q h H w f;simp only[hw]at H;split at H
  .grind [Go.Sem.run.eq_12]
  .rename_i W;have z:Vz T { w with drawn:=w.drawn+1 } h:=⟨f.heap,f.tape,f.os,f.output⟩
   let⟨p,j,h',hr,r'⟩:=g _ Q h (H (w.tape w.drawn q)) _ z
   grind [Go.Sem.run.eq_12]
 | sys c k g=>intro Q h H;exact H.elim
 | program k g=>
  intro Q h H w f;let⟨p,j,h',hr,r'⟩:=g _ Q h H w f;exact⟨p,j,h',by rw[Sem.run];exact hr,r'⟩
 | mark m k g=>
  intro Q h H w f;let⟨p,j,h',hr,r'⟩:=g Q h H w f;exact⟨p,j,h',by rw[Sem.run];exact hr,r'⟩
 | halt x=>intro Q h H;exact H.elim
theorem Zk{β:Type}(s:Sem α)(f:α->Sem β)(Q:β->Hp->Prop):∀h,hw P (s >>= f) Q h=hw P s (fun a h'=>hw P (f a) Q h') h:=by
 show ∀h,hw P (s.bind f) Q h=_
 induction s with
 | pure a=>intro h;rfl
 | load m a k g=>intro h;simp only[Sem.bind,hw,g]
 | store m a v k g=>intro h;simp only[Sem.bind,hw,g]
 | new o k g=>intro h;simp only[Sem.bind,hw,g]
 | shape r k g=>intro h;simp only[Sem.bind,hw,g]
 | freeze a n k g=>intro h;simp only[Sem.bind,hw,g]
 | frozen a k g=>intro h;simp only[Sem.bind,hw,g]
 | getObj r k g=>intro h;simp only[Sem.bind,hw,g]
 | setObj r o k g=>intro h;simp only[Sem.bind,hw,g]
 | choose q k g=>intro h;simp only[Sem.bind,hw,g]
 | sys c k g=>intro h;simp only[Sem.bind,hw]
 | program k g=>intro h;simp only[Sem.bind,hw,g]
 | mark m k g=>intro h;simp only[Sem.bind,hw,g]
 | halt x=>intro h;rfl
theorem qx{Q u:α->Hp->Prop}(z:∀a h,Q a h->u a h):∀(s:Sem α) (h:Hp),hw P s Q h->hw P s u h:=by
 intro s
 induction s with
 | pure a=>intro h H;exact z _ _ H
 | load m a k f=>intro h H;let⟨v,w,H⟩:=H;exact⟨v,w,f _ _ H⟩
 | store m a v k f=>intro h H;let⟨g,p,A,H⟩:=H;exact⟨g,p,A,f _ H⟩
 | new o k f=>intro h H;exact f _ _ H
 | shape r k f=>intro h H;exact f _ _ H
 | freeze a n k f=>intro h H;exact f _ H
 | frozen a k f=>intro h H;exact f _ _ H
 | getObj r k f=>intro h H;let⟨o,g,p,H⟩:=H;exact⟨o,g,p,f _ _ H⟩
 | setObj r o k f=>intro h H;let⟨g,H⟩:=H;exact⟨g,f _ H⟩
 | choose q k f=>
  intro h H;simp only[hw]at H ⊢;split at H
  .rename_i j;rw[if_pos j];exact f _ _ H
  .rename_i j;rw[if_neg j];exact fun t=>f _ _ (H t)
 | sys c k f=>intro h H;exact H
 | program k f=>intro h H;exact f _ _ H
 | mark m k f=>intro h H;exact f _ H
 | halt x=>intro h H;exact H
def Zg(P:ak)(T:am)(f:FuncId)(args:Array D)(h:Hp)(Q:D->Hp->Prop):Prop:=
 ∀w,Vz T w h->Calls P f args w fun e c=>∃v h',e=.returned v/\Vz T c h'/\Q v h'
theorem Zg.mono{T:am}{f:FuncId}{args:Array D}{c:D->Hp->Prop}(H:Zg P T f args h Q)(j:∀v h',Q v h'->c v h'):Zg P T f args h c:=
 fun w g=>(H w g).mono fun _ _ ⟨v,h',p,r,q⟩=>⟨v,h',p,r,j _ _ q⟩
def JX(P:ak)(T:am)(K:D->Hp->Prop):Next->Hp->Prop
 | .value v,h=>K v h
 | .skip,h=>K undef h
 | .enter f args,h=>Zg P T f args h K
 | _,_=>False
def Bj(P:ak)(T:am)(o:Oper)(K:D->Hp->Prop)(F:Env)(h:Hp):Prop:=
 hw P (execOp (ev F) o) (JX P T K) h
theorem FS{T:am}{K f:D->Hp->Prop}(c:∀v h,K v h->f v h):∀(x:Next) (h:Hp),JX P T K x h->JX P T f x h:=by
 intro x h H
 cases x<;>simp only[JX]at H ⊢<;>first|exact c _ _ H|exact H.mono c
theorem L0{T:am}{o:Oper}{K c:D->Hp->Prop}{F:Env}(f:∀v h,K v h->c v h)(H:Bj P T o K F h):Bj P T o c F h:=
 qx (FS f) _ _ H
theorem Bl{T:am}{o:Oper}{K:D->Hp->Prop}{F:Env}(H:Bj P T o K F h){a:Act}{w:am}(hF:env a=F)(s:Vz T w h){next:Act->am->Prop}{Q:Exit->Act->am->Prop}(p:∀v c h',Vz T c h'->K v h'->next (a.put o.dst v) c):o.wp P a w next Q:=by
 let⟨x,c,h',hr,j,g⟩:=zY _ _ _ H w s;unfold Oper.wp;rw[dC,hF,hr]
 cases x<;>simp only[JX]at g
 case value v=>exact p _ _ _ j g
 case skip=>exact p _ _ _ j g
 case enter f args=>
  simp only[Oper.upon];exact (g c j).mono fun e r ⟨v,A,z,u,q⟩=>by grind
def VB(ops:Array Oper)(F:Env)(j:Nat):Option Bool:=
 match (ops[j]?).bind (·.dst) with
 | some t=>match F t with
  | al b=>G b
  | _=>U
 | none=>U
def Xv(ops:Array Oper)(o:Oper)(F:Env):Bool:=a5 o (VB ops F)
def zZ(n:Nat)(o:Oper):Bool:=match o.dst with|some d=>Nat.blt d n|none=>true
def FU(n:Nat)(ops:Array Oper):Bool:=ops.toList.all (zZ n)
theorem Ld{o:Oper}(h:zZ n o=true):∀d,o.dst=G d->d<n:=by
 intro d c;unfold zZ at h;rw[c]at h;exact Nat.blt_eq.mp h
theorem HF{ops:Array Oper}(r:FU n ops=true)(a:Act)(f:a.tmps.size=n):yielded ops a.tmps=VB ops (env a):=by
 funext j
 unfold yielded VB
 cases p:ops[j]? with
 | none=>rfl
 | some o=>
  simp only[aw]
  cases q:o.dst with
  | none=>rfl
  | some d=>
   have c:d<a.tmps.size:=by
    rw[f];have g:o∈ops.toList:=by
     have:=Array.mem_of_getElem? p
     simpa using this
    exact Ld (bh.1 r o g) d q
   simp only[aw];rw[Array.getElem?_eq_getElem c];have:env a d=a.tmps[d]:=by simp[env,c]
   grind
def uj(P:ak)(T:am)(ops:Array Oper)(N:Env->Hp->Prop):List Oper->Env->Hp->Prop
 | [],F,h=>N F h
 | o :: l,F,h=>
  if Xv ops o F then Bj P T o (fun v h'=>uj P T ops N l (Y5 F o.dst v) h') F h
  else uj P T ops N l (Y5 F o.dst undef) h
def Zaa(n:Nat)(T:am)(N:Env->Hp->Prop)(X:Nat->Env->Hp->Prop)(R:Env->Hp->Prop)(e:Exit)(a:Act)(w:am):Prop:=
 a.tmps.size=n/\a.defers=[]/\∃h,Vz T w h/\match e with
  | .normal=>N (env a) h
  | .exit j=>X j (env a) h
  | .ret=>R (env a) h
  | _=>False
def VS(P:ak)(n:Nat)(T:am)(c:Code)(N:Env->Hp->Prop)(X:Nat->Env->Hp->Prop)(R:Env->Hp->Prop)(F:Env)(h:Hp):Prop:=
 ∀a w,a.tmps.size=n->a.defers=[]->env a=F->Vz T w h->c.wp P (Zaa n T N X R) a w
section
variable {P:ak} {n:Nat} {T:am} {N:Env->Hp->Prop} {X:Nat->Env->Hp->Prop} {R:Env->Hp->Prop} {F:Env} {h:Hp}
theorem VS.mono{c:Code}{g:Env->Hp->Prop}{f:Nat->Env->Hp->Prop}{R':Env->Hp->Prop}(H:VS P n T c N X R F h)(S:∀F h,N F h->g F h)(I:∀j F h,X j F h->f j F h)(L:∀F h,R F h->R' F h):VS P n T c g f R' F h:=by
 intro a w A z u s;refine Code.wp_mono (fun e a w ⟨r,q,h,p,C⟩=>⟨r,q,h,p,?_⟩) (H a w A z u s)
 grind
theorem VS.seq{c d:Code}(H:VS P n T c (fun F h=>VS P n T d N X R F h) X R F h):VS P n T (.seq c d) N X R F h:=by
 intro a w z u s r;refine wp_seq (Code.wp_mono (fun e a w ⟨q,p,h,g,f⟩=>?_) (H a w z u s r))
 cases e with
 | normal=>exact f a w q p rfl g
 | exit j=>exact⟨q,p,h,g,f⟩
 | ret=>exact⟨q,p,h,g,f⟩
 | _=>exact f.elim
theorem VS.skip(H:N F h):VS P n T .skip N X R F h:=by
 intro a w g f j c;exact wp_skip ⟨g,f,h,c,zK⟩
theorem VS.ret(H:R F h):VS P n T .ret N X R F h:=by
 intro a w g f j c;exact wp_ret ⟨g,f,h,c,zK⟩
theorem VS.exit{j:Nat}(H:X j F h):VS P n T (.exit j) N X R F h:=by
 intro a w g f p c;exact wp_exit ⟨g,f,h,c,zK⟩
theorem VS.block{j:Nat}{c:Code}(H:VS P n T c N (fun i F h=>if i=j then N F h else X i F h) R F h):VS P n T (.block j c) N X R F h:=by
 intro a w z u s r;refine wp_block (Code.wp_mono (fun e a w ⟨q,p,h,g,f⟩=>?_) (H a w z u s r))
 cases e with
 | normal=>exact⟨q,p,h,g,f⟩
 | exit i=>
  simp only[Exit.inBlock]
  grind [Zaa]
 | ret=>exact⟨q,p,h,g,f⟩
 | _=>exact f.elim
theorem VS.cond{c:aH}{x y:Code}{b:Bool}(hc:ev F c=al b)(q:b=true->VS P n T x N X R F h)(r:b=false->VS P n T y N X R F h):
  VS P n T (.cond c x y) N X R F h:=by
 intro a w p j f g;refine wp_cond_split (t:=b) (by rw[dC,f];exact hc) (fun hb=>q hb a w p j f g) (fun hb=>r hb a w p j f g)
theorem VS.loop{c:Code}(I:Env->Hp->Prop)(μ:Env->Hp->Nat)(S:I F h)(round:∀F h,I F h->VS P n T c (fun r h'=>I r h'/\μ r h'<μ F h) X R F h):VS P n T (.loop c) N X R F h:=by
 intro a w L H C q;refine wp_loop (fun a w=>a.tmps.size=n/\a.defers=[]/\Vz T w w.heap/\I (env a) w.heap) (fun a w=>μ (env a) w.heap)
  ⟨L,H,by rw[q.heap];exact q,by rw[C,q.heap];exact S⟩ ?_
 intro a w ⟨A,z,u,s⟩;refine Code.wp_mono (fun e W V ⟨p1,p,h',g,f⟩=>?_) (round (env a) w.heap s a w A z rfl u)
 cases e with
 | normal=>
  have e:=g.heap;subst e;exact⟨⟨p1,p,g,f.1⟩,f.2⟩
 | exit j=>exact⟨p1,p,h',g,f⟩
 | ret=>exact⟨p1,p,h',g,f⟩
 | _=>exact f.elim
theorem TU{ops:Array Oper}(c:FU n ops=true):∀(l:List Oper) (F:Env) (h:Hp),(∀o∈l,o∈ops.toList)->uj P T ops N l F h ->
  ∀a w,a.tmps.size=n->a.defers=[]->env a=F->Vz T w h->wpList P ops (Zaa n T N X R) l a w
 | [],F,h,_,H,a,w,h1,h2,h3,h4=>⟨h1,h2,h,h4,by rw[h3];exact H⟩
 | o :: l,F,h,hm,H,a,w,h1,h2,h3,h4=>by
  have f:∀d,o.dst=G d->d<a.tmps.size:=by
   rw[h1];exact Ld (bh.1 c o (hm o zX))
  have g:∀o∈l,o∈ops.toList:=fun x p=>hm x (by simp[p]);have j:a5 o (yielded ops a.tmps)=Xv ops o F:=by rw[HF c a h1,h3];rfl
  unfold wpList;rw[j];unfold uj at H;split at H
  .rename_i hw;rw[if_pos hw];refine .inl (Bl H h3 h4 fun v s h' r q=>?_);exact TU c l _ h' g q _ _ (by rw[LZ,h1]) (by cases o.dst<;>exact h2) (by rw[Fp a _ _ f,h3]) r
  .rename_i hw;rw[if_neg hw];exact TU c l _ h g H _ _ (by rw[LZ,h1]) (by cases o.dst<;>exact h2) (by rw[Fp a _ _ f,h3]) h4
theorem VS.region{id:Nat}{ops:Array Oper}(p:FU n ops=true)(H:uj P T ops N ops.toList F h):VS P n T (.region id ops false) N X R F h:=by
 intro a w j g f c
 grind [Go.wp_region_list,TU]
def Tn(P:ak)(T:am)(ops:Array Oper)(i:Nat)(K:Env->Hp->Prop)(F:Env)(h:Hp):Prop:=
 match ops[i]? with
 | none=>K F h
 | some o=>if Xv ops o F then Bj P T o (fun v h'=>K (Y5 F o.dst v) h') F h else K (Y5 F o.dst undef) h
theorem TF{ops:Array Oper}{K c:Env->Hp->Prop}(f:∀F h,K F h->c F h){F:Env}(H:Tn P T ops i K F h):Tn P T ops i c F h:=by
 grind [Tn,L0]
def ul(P:ak)(T:am)(ops:Array Oper)(S:Hp->Prop)(N:Env->Hp->Prop):Nat->Array Bool->Env->Hp->Prop
 | 0,listed,F,h=>a0 .any ops listed=[]/\N F h
 | k+1,listed,F,h=>(a0 .any ops listed=[]->N F h) /\
   ∀i∈a0 .any ops listed,Tn P T ops i (fun c h'=>S h'/\ul P T ops S N k (Z listed i true) c h') F h
theorem UZ{ops:Array Oper}{S:Hp->Prop}(f:FU n ops=true):∀(k:Nat) (listed:Array Bool) (F:Env) (h:Hp),ul P T ops S N k listed F h ->
  ∀a w,a.tmps.size=n->a.defers=[]->env a=F->Vz T w h->wpAny P .any ops (Zaa n T N X R) k listed a w
 | 0,listed,F,h,H,a,w,h1,h2,h3,h4=>⟨H.1,h1,h2,h,h4,by rw[h3];exact H.2⟩
 | k+1,listed,F,h,H,a,w,h1,h2,h3,h4=>by
  refine⟨fun r=>⟨h1,h2,h,h4,by rw[h3];exact H.1 r⟩,fun i hi=>?_⟩;have c:=H.2 i hi;unfold Tn at c;unfold wpOp
  cases g:ops[i]? with
  | none=>rw[g]at c;exact UZ f k _ F h c.2 a w h1 h2 h3 h4
  | some o=>
   rw[g]at c;simp only at c ⊢;have j:∀d,o.dst=G d->d<a.tmps.size:=by
    rw[h1];exact Ld (bh.1 f o zK)
   have p:a5 o (yielded ops a.tmps)=Xv ops o F:=by rw[HF f a h1,h3];rfl
   rw[p];split at c
   .rename_i hw;rw[if_pos hw];refine .inl (Bl c h3 h4 fun v u h' s q=>?_);exact UZ f k _ _ h' q.2 _ _ (by rw[LZ,h1]) (by cases o.dst<;>exact h2) (by rw[Fp a _ _ j,h3]) s
   .rename_i hw;rw[if_neg hw];exact UZ f k _ _ h c.2 _ _ (by rw[LZ,h1]) (by cases o.dst<;>exact h2) (by rw[Fp a _ _ j,h3]) h4
def UK(P:ak)(T:am)(ops:Array Oper)(S:Hp->Prop)(o:Oper)(v:D)(F:Env):Prop:=
 (Xv ops o F=true/\∀h,S h->Bj P T o (fun c h'=>c=v/\h'=h) F h)\/(Xv ops o F=false/\v=undef)
theorem Zfp{F:Env}{dst:Option Nat}(c:∀d,dst=G d->x ≠ .tmp d):ev (Y5 F dst v) x=ev F x:=by
 cases dst with
 | none=>rfl
 | some d=>
  cases x with
  | tmp t=>
   have f:t≠d:=fun e=>c d rfl (by rw[e]);show (if t=d then v else F t)=F t
   grind
  | _=>rfl
theorem HG{ops:Array Oper}(o:Oper)(f:∀cs b,o.op ≠ .select cs b)(F:Env)(dst:Option Nat)(v:D)(h:∀d,dst=G d->d ∉ o.looksAt ops):
  execOp (ev (Y5 F dst v)) o=execOp (ev F) o:=
 execOp_congr o f fun x j=>Zfp fun d g c=>h d g (by
  subst c;exact List.mem_append_left _ (List.mem_filterMap.2 ⟨.tmp d,zK,rfl⟩))
theorem L4{ops:Array Oper}(o:Oper)(F:Env)(dst:Option Nat)(v:D)(h:∀d,dst=G d->d ∉ o.looksAt ops):
  Xv ops o (Y5 F dst v)=Xv ops o F:=by
 cases dst with
 | none=>rfl
 | some d=>
  unfold Xv a5
  cases f:o.guard with
  | none=>rfl
  | some gw=>
   let⟨g,want⟩:=gw;simp only;have c:=h d rfl;unfold Oper.looksAt at c;rw[f]at c;simp only[List.mem_append,not_or]at c;have:VB ops (Y5 F (G d) v) g=VB ops F g:=by
    unfold VB
    cases hb:(ops[g]?).bind (·.dst) with
    | none=>rfl
    | some t=>
     have j:t≠d:=fun e=>c.2 zK;show (match (if t=d then v else F t) with|al b=>G b|_=>U)=_
     grind
   rw[this]
theorem Bm(F:Env){d c:Option Nat}(v f:D)(h:∀x,d=G x->c≠G x):Y5 (Y5 F d v) c f=Y5 (Y5 F c f) d v:=by
 cases d with
 | none=>rfl
 | some x=>
  cases c with
  | none=>rfl
  | some y=>
   have g:y≠x:=fun e=>h x rfl (by rw[e])
   funext t
   simp only[Y5,upd]
   grind
theorem UK.put{ops:Array Oper}{S:Hp->Prop}{o:Oper}(f:∀cs b,o.op ≠ .select cs b){F:Env}(c:UK P T ops S o v F){dst:Option Nat}{u:D}(h:∀d,dst=G d->d ∉ o.looksAt ops):UK P T ops S o v (Y5 F dst u):=by
 unfold UK Bj at *;rw[L4 o F dst u h,HG o f F dst u h];exact c
theorem UK.opI{ops:Array Oper}{S:Hp->Prop}{o:Oper}{F:Env}(hi:ops[i]? = G o)(c:UK P T ops S o v F)(hS:S h){K:Env->Hp->Prop}(H:K (Y5 F o.dst v) h):Tn P T ops i K F h:=by
 grind [Tn,UK,L0]
theorem dD{ops:Array Oper}{S:Hp->Prop}{j:Nat}{c f:Oper}(z:ops[j]? = G f)(p:c.apart ops f=true)(w:∀cs b,c.op ≠ .select cs b)(g:∀cs b,f.op ≠ .select cs b){K:Env->Hp->Prop}{F:Env}(A:UK P T ops S c v F)(H:Tn P T ops j K (Y5 F c.dst v) h):Tn P T ops j (fun s h'=>UK P T ops S c v s/\K (Y5 s c.dst v) h') F h:=by
 let⟨r,I,C⟩:=Oper.apart_spec p;unfold Tn at *;rw[z]at *;simp only at *;rw[L4 f F c.dst v r]at H;split at H
 .rename_i hw;rw[if_pos hw];unfold Bj at *;rw[HG f g F c.dst v r]at H;refine qx (FS fun u h' q=>?_) _ _ H
  grind [UK.put,Bm]
 grind [UK.put,Bm]
theorem FV{ops:Array Oper}{S:Hp->Prop}{p:Oper}(hi:ops[i]? = G p)(r:∀(j:Nat) (o:Oper) cs b,ops[j]? = G o->o.op ≠ .select cs b):
  ∀(k:Nat) (listed:Array Bool) (F:Env) (h:Hp),
   (∀j f,ops[j]? = G f->j≠i->listed.getD j true=false->(∀e∈f.after,bG .any e=true->e.on≠i)->p.apart ops f=true) ->
   i∈a0 .any ops listed->UK P T ops S p v F->S h ->
   ul P T ops S N k (Z listed i true) (Y5 F p.dst v) h->ul P T ops S N (k+1) listed F h:=by
 intro k
 induction k with
 | zero=>
  intro listed F h _ hr s hS H;refine⟨fun h=>zK,fun j u=>?_⟩;by_cases c:j=i
  .subst c;exact s.opI hi hS ⟨hS,H⟩
  .have:=ready_mono u c;rw[H.1]at this
   cases this
 | succ k ih=>
  intro listed F h I hr s hS H;refine⟨fun h=>zK,fun j u=>?_⟩;by_cases c:j=i
  .subst c;exact s.opI hi hS ⟨hS,H⟩
  .have h1:=H.2 j (ready_mono u c);let⟨C,f,g,QV⟩:=mem_ready.1 u;have W:∀e∈f.after,bG .any e=true->e.on≠i:=fun e he hb heq=>by
    grind [Go.mem_ready]
   have h2:=dD g (I j f g c C W) (fun cs b=>r i p cs b hi) (fun cs b=>r j f cs b g) s h1;have V:∀k ok,ops[k]? = G ok->k≠i->(Z listed j true).getD k true=false ->
     (∀e∈ok.after,bG .any e=true->e.on≠i)->p.apart ops ok=true:=fun k ok hk L q z=>by
    refine I k ok hk L ?_ z;by_cases A:j=k
    .grind
    .rw[getD_set_ne true A]at q;exact q
   refine TF (fun F' h' w=>⟨w.2.1,ih (Z listed j true) F' h' V (ready_mono hr (Ne.symm c)) w.1 w.2.1 ?_⟩) h2;rw[Array.setIfInBounds_comm _ _ c];exact w.2.2
def HH(P:ak)(T:am)(ops:Array Oper)(S:Hp->Prop)(N:Env->Hp->Prop):List (Nat × Bool × Oper)->Env->Hp->Prop
 | [],F,h=>N F h
 | (_,q,o) :: l,F,h=>
  if Xv ops o F then
   if q then ∃v,(∀h',S h'->Bj P T o (fun c f=>c=v/\f=h') F h')/\HH P T ops S N l (Y5 F o.dst v) h
   else Bj P T o (fun v h'=>S h'/\HH P T ops S N l (Y5 F o.dst v) h') F h
  else HH P T ops S N l (Y5 F o.dst undef) h
def Rh(ops:Array Oper)(l:List (Nat × Bool)):List (Nat × Bool × Oper):=l.map fun (i,q)=>(i,q,ops.getD i default)
def FW(ops:Array Oper):List (Nat × Bool)->Array Bool->Bool
 | [],listed=>(a0 .any ops listed).isEmpty
 | (i,q) :: l,listed=>
  (if q then (a0 .any ops listed).contains i&&Region.free .any ops listed i else (a0 .any ops listed == [i]))&&FW ops l (Z listed i true)
theorem U6{ops:Array Oper}{S:Hp->Prop}(c:bV ops=true):∀(l:List (Nat × Bool)) (listed:Array Bool) (F:Env) (h:Hp),FW ops l listed=true->S h ->
  HH P T ops S N (Rh ops l) F h->ul P T ops S N (M l) listed F h
 | [],listed,F,h,hB,_,H=>⟨by simpa [FW] using hB,H⟩
 | (i,q) :: l,listed,F,h,hB,hS,H=>by
  simp only[FW,ax]at hB;let⟨g,r⟩:=hB;have s:i∈a0 .any ops listed:=by
   cases q
   .grind
   .grind
  let⟨_,o,f,_⟩:=mem_ready.1 s;have w:Rh ops ((i,q) :: l)=(i,q,o) :: Rh ops l:=by simp[Rh,f]
  rw[w]at H;simp only[HH]at H
  cases q with
  | true=>
   simp only[if_true,ax]at g H;split at H
   .rename_i hw;let⟨v,u,H⟩:=H;exact FV f (br c) (M l) listed F h (bN f g.2) s (.inl ⟨hw,u⟩) hS (U6 c l _ _ _ r hS H)
   .rename_i hw;exact FV f (br c) (M l) listed F h (bN f g.2) s (.inr ⟨zK,rfl⟩) hS (U6 c l _ _ _ r hS H)
  | false=>
   simp only[aX,if_false,beq_iff_eq]at g H;refine⟨fun z=>zK,fun j p=>?_⟩;rw[g]at p;have p:j=i:=by simpa using p
   subst p;unfold Tn;rw[f];simp only;split at H
   .rename_i hw;rw[if_pos hw];exact L0 (fun v h' q=>⟨q.1,U6 c l _ _ _ r q.1 q.2⟩) H
   .rename_i hw;rw[if_neg hw];exact⟨hS,U6 c l _ _ _ r hS H⟩
def OZ(n:Nat)(ops:Array Oper)(l:List (Nat × Bool)):Bool:=
 FU n ops&&(bV ops&&(FW ops l (bW ops.size false)&&Nat.beq (M l) ops.size))
theorem VS.held{id:Nat}{ops:Array Oper}(S:Hp->Prop)(l:List (Nat × Bool))(q:P.follows .mixedOrders=true)(f:OZ n ops l=true)(hS:S h)(H:HH P T ops S N (Rh ops l) F h):VS P n T (.region id ops true) N X R F h:=by
 intro a w z u s c;simp only[OZ,ax]at f;let⟨p,j,A,g⟩:=f;refine wp_region_any q ?_;have r:(M l)=ops.size:=Nat.eq_of_beq_eq_true g;rw[<-r];refine UZ p _ _ F h (U6 j l _ F h zK hS H) a _ z u s ⟨c.heap,c.tape,c.os,c.output⟩
theorem VS.quiet{id:Nat}{ops:Array Oper}(c:P.follows .mixedOrders=true)(f:OZ n ops ((a3 ops.size).map fun i=>(i,true))=true)(H:HH P T ops (fun h'=>h'=h) N (Rh ops ((a3 ops.size).map fun i=>(i,true))) F h):VS P n T (.region id ops true) N X R F h:=
 VS.held (fun h'=>h'=h) _ c f rfl H
def hr{α:Type}(P:ak):Sem α->Hp->Option α
 | .pure a,_=>G a
 | .load _ a k,h=>(hc h a).bind fun v=>hr P (k v) h
 | .shape r k,h=>hr P (k (TQ h r)) h
 | .frozen a k,h=>hr P (k (qw h a)) h
 | .program k,h=>hr P (k P) h
 | _,_=>U
theorem Zac{T:am}:∀(s:Sem α) (h:Hp) (a:α),hr P s h=G a->∀w,Vz T w h->s.run P w=.ok a w:=by
 intro s
 induction s with
 | pure a=>intro h b H w c;simp only[hr,Option.some.injEq]at H;rw[H];rfl
 | load m a k f=>
  intro h b H w c
  grind [hc,hr,Go.World.cell?.eq_1,Vz.heap,Go.Sem.run.eq_2]
 | shape r k f=>
  intro h b H w c;have:w.shape? r=TQ h r:=by rw[World.shape?,c.heap];rfl
  rw[Sem.run,this];exact f _ h b H w c
 | frozen a k f=>
  intro h b H w c;have:w.frozen? a=qw h a:=by rw[World.frozen?,c.heap];rfl
  rw[Sem.run,this];exact f _ h b H w c
 | program k f=>intro h b H w c;rw[Sem.run];exact f _ h b H w c
 | _=>intro h b H;cases H
theorem Ul{β:Type}(s:Sem α)(f:α->Sem β):∀h,hr P (s >>= f) h=(hr P s h).bind fun a=>hr P (f a) h:=by
 show ∀h,hr P (s.bind f) h=_
 induction s with
 | load m a k c=>intro h;simp only[Sem.bind,hr,c];cases hc h a<;>rfl
 | shape r k c=>intro h;simp only[Sem.bind,hr,c]
 | frozen a k c=>intro h;simp only[Sem.bind,hr,c]
 | program k c=>intro h;simp only[Sem.bind,hr,c]
 | _=>intro h;rfl
def L5(P:ak)(t:O)(v:D)(h:Hp):Option D:=
 match v with
 | J (G a)=>hr P (loadVar t a) h
 | _=>U
def Um(P:ak)(F:Env)(h:Hp):List ResultVar->Option (List D)
 | []=>G []
 | .tmp t :: l=>(Um P F h l).map (F t :: ·)
 | .cell a t :: l=>(L5 P t (F a) h).bind fun v=>(Um P F h l).map (v :: ·)
def Lf:List D->D
 | [v]=>v
 | l=>.tuple (Y l)
def Cq(P:ak)(l:List ResultVar)(F:Env)(Q:D->Hp->Prop)(h:Hp):Prop:=
 match Um P F h l with
 | some vs=>Q (Lf vs) h
 | none=>False
def Zfq(F:Env):ResultVar->Sem D
 | .tmp t=>pure (F t)
 | .cell a t=>do loadVar t (<-asAddr (F a))
theorem um{F:Env}:∀(l:List ResultVar) (vs:List D),Um P F h l=G vs->hr P (l.mapM (Zfq F)) h=G vs:=by
 intro l
 induction l with
 | nil=>intro vs H;simp only[Um,Option.some.injEq]at H;subst H;rfl
 | cons x l j=>
  intro vs H;rw[bb,Ul]
  cases x with
  | tmp t=>
   simp only[Um]at H
   cases c:Um P F h l with
   | none=>rw[c]at H;cases H
   | some g=>
    rw[c]at H;simp only[aF,Option.some.injEq]at H;subst H;show (G (F t)).bind _=_;rw[aw,Ul,j g c];rfl
  | cell a t=>
   simp only[Um]at H
   cases f:L5 P t (F a) h with
   | none=>rw[f]at H;cases H
   | some v=>
    rw[f]at H
    cases c:Um P F h l with
    | none=>rw[c]at H;cases H
    | some g=>
     rw[c]at H;simp only[aw,aF,Option.some.injEq]at H;subst H;have e:hr P (Zfq F (.cell a t)) h=G v:=by
      show hr P (asAddr (F a) >>= fun b=>loadVar t b) h=G v;unfold L5 at f;split at f
      .rename_i b hb;rw[hb,Ul];exact f
      .cases f
     rw[e,aw,Ul,j g c];rfl
theorem dF{fn:Func}{l:List ResultVar}(g:fn.results=(Y l)){a:Act}{vs:List D}(H:Um P (env a) h l=G vs){w:am}(f:Vz T w h):
  (results fn a.tmps).run P w=.ok (Lf vs) w:=by
 have e:results fn a.tmps=(do let c <-fn.results.mapM (Zfq (env a));pure (if h:c.size=1 then c[0] else .tuple c)):=by
  have j:(fun x:ResultVar=>match x with|.tmp t=>(pure (a.tmps.getD t undef):Sem D)|.cell x t=>do loadVar t (<-asAddr (a.tmps.getD x undef)))=Zfq (env a):=by
   funext x
   cases x<;>rfl
  rw[<-j];rfl
 rw[e,g];refine Zac (T:=T) _ h _ ?_ w f;rw[Ul,bK,map_eq_pure_bind,Ul,um l vs H];show G _=_
 congr 1
 match vs with
 | []=>rfl
 | [v]=>rfl
 | v :: u :: l=>simp[Lf]
end
theorem un(args:Array D)(k:Nat):env { tmps:=args++bW k undef,defers:=[] } = G6 args.toList 0:=by
 have key:∀(l:List D) (j t:Nat),G6 l j t=if j<=t then (l[t-j]?).getD undef else undef:=by
  intro l
  induction l with
  | nil=>intro j t;simp[G6]
  | cons v l c=>
   intro j t;simp only[G6,upd]
   grind
 funext t
 rw[key];simp only[env,Nat.zero_le,if_true,Nat.sub_zero,ba,Array.getElem?_append,bp]
 grind
theorem Zg.Fr{T:am}{f:FuncId}{fn:Func}{c:Code}{l:List ResultVar}{args:Array D}(z:P.funcs[f]? = G fn)(hb:fn.body=G c)(I:fn.results=(Y l))(u:b0 args.size fn.ntmps=true)(H:VS P fn.ntmps T c (fun F h'=>Cq P l F Q h') (fun _ _ _=>False) (fun F h'=>Cq P l F Q h') (G6 args.toList 0) h):
  Zg P T f args h Q:=by
 intro w r;refine calls_of_wp z hb (Code.wp_mono (fun e a w s=>?_) (H _ w ?_ rfl (un _ _) r))
 .let⟨C,p,h',A,g⟩:=s;have key:Cq P l (env a) Q h'->∃v,(results fn a.tmps).run P w=.ok v w/\∃j q,Ending.returned v=.returned j/\Vz T w q/\Q j q:=by
   intro hr;unfold Cq at hr;split at hr
   .grind [dF]
   .exact hr.elim
  cases e with
  | normal=>exact⟨p,key g⟩
  | ret=>exact⟨p,key g⟩
  | _=>exact g.elim
 .have:=Nat.le_of_ble_eq_true u
  grind
set_option linter.all false
def tz(P:ak)(t:O):Option (List D):=((P.info? t).bind (·.zero)).map fun v=>v.cells.toList
def tn(P:ak)(t:O):Option Nat:=(P.info? t).map (·.size)
def tb(P:ak)(t:O):Option Nat:=(P.info? t).map (·.bytes)
def ta(P:ak)(t:O):Option Bool:=(P.underlying t).map fun|.struct _=>true|.array _ _=>true|_=>false
def tf(P:ak)(t:O)(i:Nat):Option Nat:=
 match P.underlying t with
 | some (.struct c)=>(c[i]?).bind fun f=>match tn P f.type with
  | some (_+1)=>G f.offset
  | _=>U
 | _=>U
def XJ(P:ak)(t:O):Option (Nat × O):=match P.underlying t with|some (.array n e)=>G (n,e)|_=>U
def Un(P:ak)(t:O):Option O:=match P.underlying t with|some (.slice e)=>G e|_=>U
def ME(P:ak)(t:O):Option (List (Nat × Nat)):=match P.underlying t with|some (.struct c)=>c.toList.mapM (fun f=>(tn P f.type).map fun n=>(f.offset,n))|_=>U
def tfl(P:ak)(t:O)(i:Nat):Option (Nat × O):=match P.underlying t with|some (.struct c)=>(c[i]?).map fun f=>(f.offset,f.type)|_=>U
def VC(P:ak)(t:O):Bool:=match P.underlying t with|some .string=>true|_=>false
def Cr(P:ak)(t:O):Option IntKind:=match P.underlying t with|some (.int k)=>G k|_=>U
def goes(P:ak)(f:FuncId):Bool:=match P.funcs[f]? with|some fn=>!(fn.name == "runtime.NumGoroutine")&&fn.body.isSome|none=>false
def cl:D->List D
 | aC cs=>cs.toList
 | v=>[v]
theorem L6(v:D):(cl v).toArray=v.cells:=by cases v<;>rfl
section
variable (P:ak) (T:am)
def Bn(c a b:D)(K:D->Hp->Prop)(h:Hp):Prop:=
 match c with|al t=>K (if t then a else b) h|_=>False
def Zad(z:Option (List D))(t:O)(K:D->Hp->Prop)(h:Hp):Prop:=
 match z with|some l=>K (J (G ⟨h.size,0,U⟩)) (h.push (ae (Y l) t))|none=>False
def rd(h:Hp)(a:Addr)(n:Nat):Option (List D):=
 match h[a.block]? with
 | some (ae c _ _)=>if a.spot=U/\a.off+n<=c.size then G ((c.toList.drop a.off).take n) else U
 | _=>U
def IF(x:Option D)(K:D->Hp->Prop)(h:Hp):Prop:=match x with|some v=>K v h|none=>False
def G8(x:Option (List D))(K:D->Hp->Prop)(h:Hp):Prop:=match x with|some l=>K (aC (Y l)) h|none=>False
def FX(s:Option Bool)(n:Option Nat)(p:D)(K:D->Hp->Prop)(h:Hp):Prop:=
 match p with
 | J (G a)=>match s,n with
  | some false,_=>IF (hc h a) K h
  | some true,G n=>G8 (rd h a n) K h
  | _,_=>False
 | _=>False
def XB:List D->Nat->List D->List D
 | l,_,[]=>l
 | [],_,_ :: _=>[]
 | _ :: l,0,v :: vs=>v :: XB l 0 vs
 | x :: l,n+1,v :: vs=>x :: XB l n (v :: vs)
def wr(h:Hp)(a:Addr)(vs:List D):Option Hp:=
 match h[a.block]? with
 | some (ae c e (lo,hi))=>if a.spot=U/\a.off+(M vs)<=c.size/\hi<=lo/\vs.all YV=true then G (Z h a.block (ae (XB c.toList a.off vs).toArray e (lo,hi))) else U
 | _=>U
def Uf(h:Hp)(a:Addr)(v:D):Option Hp:=
 match h[a.block]? with
 | some (ae c e (lo,hi))=>if a.spot=U/\a.off<c.size/\hi<=lo/\YV v=true then G (Z h a.block (ae (Z c a.off v) e (lo,hi))) else U
 | _=>U
def qB(x:Option Hp)(K:D->Hp->Prop):Prop:=match x with|some h'=>K undef h'|none=>False
def Tc(n:Option Nat)(p v:D)(K:D->Hp->Prop)(h:Hp):Prop:=
 match p,n with
 | J (G a),G n=>
  if n=(cl v).length then
   match v with
   | aC cs=>qB (wr h a cs.toList) K
   | v=>qB (Uf h a v) K
  else False
 | _,_=>False
def O1(f:Option Nat)(p:D)(K:D->Hp->Prop)(h:Hp):Prop:=
 match f,p with
 | some o,J (G a)=>K (J (G (a.add o))) h
 | _,_=>False
def Ji(c:BinOp)(t:O)(x y:aH)(a b:D)(K:D->Hp->Prop)(h:Hp):Prop:=
 hw P (do eqGuard c t x y a b;binOp c t a b) K h
def vUn(c:UnOp)(a:D)(K:D->Hp->Prop)(h:Hp):Prop:=hw P (Op.unary c a) K h
def L9(src dst:O)(a:D)(K:D->Hp->Prop)(h:Hp):Prop:=hw P (convert src dst a) K h
def vIx(arr:Option (Nat × O))(sl:Option O)(n:O->Option Nat)(p i:D)(K:D->Hp->Prop)(h:Hp):Prop:=
 match i with
 | .int _ i=>(match arr,sl,p with
  | some (len,e),U,J (G a)=>(match n e with
   | some n=>if 0<=i/\i<(len:Int) then K (J (G (a.add (i.toNat*n)))) h else False
   | none=>False)
  | none,G e,aa (G a) len _=>(match n e with
   | some n=>if 0<=i/\i<(len:Int) then K (J (G (a.add (i.toNat*n)))) h else False
   | none=>False)
  | _,_,_=>False)
 | _=>False
def VD(v:D)(i:Nat)(K:D->Hp->Prop)(h:Hp):Prop:=
 match v with|.tuple vs=>IF (vs[i]?) K h|_=>False
def j6(v:D)(K:D->Hp->Prop)(h:Hp):Prop:=
 match v with|J (G a)=>K (J (G a)) h|.func (.func f) x y=>K (.func (.func f) x y) h|_=>False
def FY(f:D)(args:List D)(K:D->Hp->Prop)(h:Hp):Prop:=
 match f with
 | .func (.func f) first captured=>if goes P f=true then Zg P T f (first.toList++args++captured.toList).toArray h K
  else hw P (callFunc f (first.toList++args++captured.toList).toArray) (JX P T K) h
 | _=>False
def OV(b:Builtin)(ts:Array O)(ty:O)(cs:Array Bool)(args:List D)(K:D->Hp->Prop)(h:Hp):Prop:=
 hw P (builtin b ts ty cs (Y args)) (JX P T K) h
def uo(F:Env):List aH->List D
 | []=>[]
 | x :: l=>ev F x :: uo F l
theorem ab(F:Env)(l:List aH):uo F l=l.map (ev F):=by induction l with|nil=>rfl|cons x l c=>simp[uo,c]
def nth{α:Type}:List α->Nat->Option α
 | [],_=>U
 | x :: _,0=>G x
 | _ :: l,n+1=>nth l n
def Kd(n:Nat)(i:Nat):Option (Nat × Nat):=G (i*n,n)
def VE(place:Nat->Option (Nat × Nat)):List D->List (Nat × D)->Option (List D)
 | cs,[]=>G cs
 | cs,(i,v) :: l=>match place i with
  | some (o,s)=>if (cl v).length=s/\o+s<=(M cs) then VE place (XB cs o (cl v)) l else U
  | none=>U
def j7(F:Env):List (Nat × aH)->List (Nat × D)
 | []=>[]
 | (i,x) :: l=>(i,ev F x) :: j7 F l
def Fs(n:Option Nat)(z:List D)(parts:List (Nat × D))(K:D->Hp->Prop)(h:Hp):Prop:=
 match n with|some n=>G8 (VE (Kd n) z parts) K h|none=>False
def Lg(z:Option (List D))(c:Option (List (Nat × Nat)))(arr:Option (Nat × O))(n:O->Option Nat)(parts:List (Nat × D))(K:D->Hp->Prop)(h:Hp):Prop:=
 match z,c,arr with
 | some z,G c,U=>G8 (VE (nth c) z parts) K h
 | some z,U,G (_,e)=>Fs (n e) z parts K h
 | _,_,_=>False
def Ug:Nat->List D->List D
 | 0,_=>[]
 | n+1,z=>z++Ug n z
def j8:Nat->List (Nat × D)->Option (List D)
 | _,[]=>G []
 | k,(i,v) :: l=>if i=k/\YV v=true then (j8 (k+1) l).map (v :: ·) else U
def qC(e:O)(len:Nat)(x:Option (List D))(K:D->Hp->Prop)(h:Hp):Prop:=
 match x with|some l=>K (aa (G ⟨h.size,0,U⟩) len len) (h.push (ae (Y l) e))|none=>False
def Fu(n len:Nat)(z:List D)(parts:List (Nat × D)):Option (List D):=
 if n=1/\(M parts)=len then j8 0 parts else VE (Kd n) (Ug len z) parts
def Me(e:O)(n:Option Nat)(z:Option (List D))(len:Nat)(parts:List (Nat × D))(K:D->Hp->Prop)(h:Hp):Prop:=
 match n,z with
 | some n,G z=>if (M z)=n/\len*n<=16777216 then qC e len (Fu n len z parts) K h else False
 | _,_=>False
def Ke(e:Option O)(n:O->Option Nat)(z:O->Option (List D))(len:Nat)(parts:List (Nat × D))(K:D->Hp->Prop)(h:Hp):Prop:=
 match e with
 | some e=>Me e (n e) (z e) len parts K h
 | none=>False
def HI(a:Option Bool)(n:Option Nat)(cs:List D)(o:Nat)(K:D->Hp->Prop)(h:Hp):Prop:=
 match a,n with
 | some true,G n=>K (aC ((cs.drop o).take n).toArray) h
 | some false,_=>IF (nth cs o) K h
 | _,_=>False
def Zae(f:Option (Nat × O))(a:O->Option Bool)(n:O->Option Nat)(x:D)(K:D->Hp->Prop)(h:Hp):Prop:=
 match f,x with
 | some (o,t),aC cs=>HI (a t) (n t) cs.toList o K h
 | _,_=>False
def qD(m:Option Nat)(a:Option Bool)(len:Nat)(cs:List D)(i:Int)(K:D->Hp->Prop)(h:Hp):Prop:=
 match m with|some m=>if 0<=i/\i<(len:Int) then HI a (G m) cs (i.toNat*m) K h else False|none=>False
def ur(arr:Option (Nat × O))(str:Bool)(a:O->Option Bool)(n:O->Option Nat)(x i:D)(K:D->Hp->Prop)(h:Hp):Prop:=
 match i with
 | .int _ i=>(match arr,str,x with
  | some (len,e),false,aC cs=>qD (n e) (a e) len cs.toList i K h
  | none,true,.string s=>if 0<=i/\i<(s.size:Int) then K (.int .u8 ((s.data.toList.getD i.toNat 0).toNat:Nat)) h else False
  | _,_,_=>False)
 | _=>False
def sb(x:Option D)(d y:Nat):Option Nat:=
 match x with
 | none=>G d
 | some (.int _ i)=>if 0<=i/\i<=(y:Int) then G i.toNat else U
 | _=>U
def qE(F:Env):Option aH->Option D
 | none=>U
 | some x=>G (ev F x)
def OG(n:Option Nat)(a:Option Addr)(len cap:Nat)(lo hi:Option D)(K:D->Hp->Prop)(h:Hp):Prop:=
 match n,sb hi len cap with
 | some n,G b=>(match sb lo 0 b with
  | some l=>K (aa (if cap=l then a else a.map (·.add (l*n))) (b-l) (cap-l)) h
  | none=>False)
 | _,_=>False
def Cu(arr:Option (Nat × O))(sl:Option O)(str:Bool)(n:O->Option Nat)(x:D)(lo hi c:Option D)(K:D->Hp->Prop)(h:Hp):Prop:=
 match c,x,arr,sl,str with
 | some f,aa a len cap,U,G e,_=>(match hi,sb (G f) 0 cap with
  | some g,G m=>OG (n e) a len m lo (G g) K h
  | _,_=>False)
 | none,aa a len cap,U,G e,_=>OG (n e) a len cap lo hi K h
 | none,J (G a),G (len,e),U,_=>OG (n e) (G a) len len lo hi K h
 | none,.string s,U,U,true=>(match sb hi s.size s.size with
  | some b=>(match sb lo 0 b with|some l=>K (.string (s.extract l b)) h|none=>False)
  | none=>False)
 | _,_,_,_,_=>False
def Zfr(e:O)(n:Option Nat)(f:Option Nat)(z:Option (List D))(l c:Int)(K:D->Hp->Prop)(h:Hp):Prop:=
 match n,f,z with
 | some n,G bytes,G z=>if (M z)=n/\0<=l/\l<=c/\c<=9223372036854775807/\(bytes:Int)*c<=281474976710656 then K (aa (G ⟨h.size,0,U⟩) l.toNat c.toNat) (h.push (ae (Ug c.toNat z).toArray e)) else False
 | _,_,_=>False
def vMk(e:Option O)(n f:O->Option Nat)(z:O->Option (List D))(l c:D)(K:D->Hp->Prop)(h:Hp):Prop:=
 match e,l,c with
 | some e,.int _ l,.int _ c=>Zfr e (n e) (f e) (z e) l c K h
 | _,_,_=>False
def Sy(g:Op)(ty:O)(K:D->Hp->Prop)(F:Env)(h:Hp):Prop:=
 match g with
 | .move x|.assign x=>K (ev F x) h
 | .pick c a b=>Bn (ev F c) (ev F a) (ev F b) K h
 | .alloc e=>Zad (tz P e) e K h
 | .box e x=>Zad (G (cl (ev F x))) e K h
 | .load t a=>FX (ta P t) (tn P t) (ev F a) K h
 | .store t a x=>Tc (tn P t) (ev F a) (ev F x) K h
 | .fieldAddr t x i=>O1 (tf P t i) (ev F x) K h
 | .indexAddr t x i=>vIx (XJ P t) (Un P t) (tn P) (ev F x) (ev F i) K h
 | .nilCheck x=>j6 (ev F x) K h
 | .binOp g t x y _=>Ji P g t x y (ev F x) (ev F y) K h
 | .unOp g _ x=>vUn P g (ev F x) K h
 | .convert s d x=>L9 P s d (ev F x) K h
 | .extract x i=>VD (ev F x) i K h
 | .makeFunc fn first captured=>K (.func fn (uo F first.toList).toArray (uo F captured.toList).toArray) h
 | .call ⟨.value f,args,_⟩=>FY P T (ev F f) (uo F args.toList) K h
 | .call ⟨.builtin b,args,ts⟩=>OV P T b ts ty (args.map fun|.const _=>true|_=>false) (uo F args.toList) K h
 | .build t parts=>Lg (tz P t) (ME P t) (XJ P t) (tn P) (j7 F parts.toList) K h
 | .buildSlice t len parts=>Ke (Un P t) (tn P) (tz P) len (j7 F parts.toList) K h
 | .field t x i=>Zae (tfl P t i) (ta P) (tn P) (ev F x) K h
 | .index t x i=>ur (XJ P t) (VC P t) (ta P) (tn P) (ev F x) (ev F i) K h
 | .slice t x lo hi j=>Cu (XJ P t) (Un P t) (VC P t) (tn P) (ev F x) (qE F lo) (qE F hi) (qE F j) K h
 | .makeSlice t l c=>vMk (Un P t) (tn P) (tb P) (tz P) (ev F l) (ev F c) K h
 | g=>Bj P T ⟨U,g,ty, "", #[],U⟩ K F h
end
section
variable {P:ak} {T:am} {K:D->Hp->Prop} {F:Env} {h:Hp} {ty:O}
theorem j9{Q:ak->Hp->Prop}:hw P program Q h=Q P h:=rfl
theorem ZS{Q:α->Hp->Prop}(a:α):hw P (pure a) Q h=Q a h:=rfl
theorem Jp{d:TypeInfo}(c:P.info? t=G d){Q:TypeInfo->Hp->Prop}:hw P (typeInfo t) Q h=Q d h:=by
 simp only[typeInfo];rw[Zk];simp only[program,hw];rw[c];rfl
theorem ZL{d:TypeDesc}(c:P.underlying t=G d){Q:TypeDesc->Hp->Prop}:hw P (underlying t) Q h=Q d h:=by
 simp only[underlying];rw[Zk];simp only[program,hw];rw[c];rfl
theorem run_sizeOf(c:tn P t=G n){Q:Nat->Hp->Prop}:hw P (sizeOf t) Q h=Q n h:=by
 unfold tn at c
 cases hi:P.info? t with
 | none=>rw[hi]at c;cases c
 | some i=>
  rw[hi]at c;simp only[aF,Option.some.injEq]at c;subst c;unfold sizeOf;rw[Zk,Jp hi];rfl
theorem TG{b:Bool}(hb:ta P t=G b){Q:Bool->Hp->Prop}:hw P (isAgg t) Q h=Q b h:=by
 unfold ta at hb
 cases hi:P.underlying t with
 | none=>rw[hi]at hb;cases hb
 | some d=>
  rw[hi]at hb;simp only[aF,Option.some.injEq]at hb;subst hb;unfold isAgg;rw[Zk,ZL hi]
  cases d<;>rfl
theorem X9(b o n:Nat):Addr.add ⟨b,o,U⟩ n=⟨b,o+n,U⟩:=by
 unfold Addr.add
 grind
theorem Mf(a:Addr)(n:Nat)(c:a.spot=U):a.add n=⟨a.block,a.off+n,U⟩:=by
 let⟨b,o,s⟩:=a;simp only at c;subst c;exact X9 b o n
theorem run_loadCells(a:Addr)(c:List D){Q:Array D->Hp->Prop}:∀(n i:Nat) (acc:Array D),
  (∀j,j<n->hc h (a.add (i+j))=G (c.getD j undef))->n=(M c)->Q (acc++(Y c)) h->hw P (loadCellsFrom a i n acc) Q h:=by
 induction c with
 | nil=>intro n i acc _ f H;subst f;simpa [loadCellsFrom,pure,hw] using H
 | cons v c p=>
  intro n i acc g f H;subst f;show hw P (load (a.add i) >>= fun v=>loadCellsFrom a (i+1) (M c) (acc.push v)) Q h;rw[Zk];refine⟨v,by simpa using g 0 zX,?_⟩;refine p _ (i+1) _ (fun j q=>?_) rfl ?_
  .have:=g (j+1) Fo
   grind
  .simpa using H
theorem kf(H:FX (ta P t) (tn P t) v K h):hw P (Instr.loadAt t v) K h:=by
 unfold FX at H;split at H
 .rename_i a;unfold Instr.loadAt;rw[Zk];show hw P (loadVar t a) K h;unfold loadVar;rw[Zk];split at H
  .rename_i g;rw[TG g];unfold IF at H;split at H
   .rename_i v p;exact⟨v,p,H⟩
   .exact H.elim
  .rename_i n g q;rw[TG g];simp only[if_true];rw[Zk,run_sizeOf q,Zk];unfold G8 at H;split at H
   .rename_i l f;unfold rd at f;split at f
    .rename_i c e z hb;split at f
     .rename_i r;let⟨w,u⟩:=r;simp only[Option.some.injEq]at f;subst f;have hlen:((c.toList.drop a.off).take n).length=n:=Fo;refine run_loadCells a _ n 0 #[] (fun j s=>?_) hlen.symm (by simpa [ZS] using H)
      grind [hc,Mf]
     .cases f
    .cases f
   .exact H.elim
  .exact H.elim
 .exact H.elim
theorem run_store{Q:Unit->Hp->Prop}:hw P (store a v) Q h=(YV v=true/\(∃u,hc h a=G u)/\qw h a=false/\Q () (ui h a v)):=rfl
theorem Zfs{c:Array D}{f:Nat × Nat}(hb:h[a.block]? = G (ae c e f))(g:a.spot=U)(v:D):
  ui h a v=Z h a.block (ae (Z c a.off v) e f):=by
 grind [ui]
theorem RW(l:List D)(n:Nat)(v:D)(vs:List D):XB l n (v :: vs)=XB (l.set n v) (n+1) vs:=by
 induction l generalizing n with
 | nil=>cases vs<;>simp[XB]
 | cons x l f=>
  cases n with
  | zero=>
   simp only[XB,bA]
   cases vs with
   | nil=>simp[XB]
   | cons u c=>simp[XB]
  | succ n=>
   simp only[XB,bE];rw[f]
   cases vs with
   | nil=>simp[XB]
   | cons u c=>simp[XB]
theorem Xf{lo hi:Nat}{Q:Unit->Hp->Prop}(p:a.spot=U)(f:hi<=lo):∀(vs:List D) (i:Nat) (h:Hp) (c:Array D),
  h[a.block]? = G (ae c e (lo,hi))->a.off+i+(M vs)<=c.size->vs.all YV=true ->
  Q () (Z h a.block (ae (XB c.toList (a.off+i) vs).toArray e (lo,hi)))->hw P (storeCells a vs i) Q h
 | [],i,h,c,hb,_,_,H=>by
  have e:Z h a.block (ae (XB c.toList (a.off+i) []).toArray e (lo,hi))=h:=by
   have g:=(aI.1 hb).1;apply Array.ext_getElem?;intro j;rw[a1];by_cases q:a.block=j
   .subst q;rw[if_pos rfl,if_pos g,hb];simp[XB]
   .simp[q]
  rw[e]at H;exact H
 | v :: vs,i,h,c,hb,hlen,JD,H=>by
  simp only[a6,ax]at JD;simp only[bR]at hlen;show hw P (store (a.add i) v >>= fun _=>storeCells a vs (i+1)) Q h;rw[Zk,run_store,Mf a i p];have g:a.block<h.size:=(aI.1 hb).1;refine⟨JD.1,?_,?_,?_⟩
  .unfold hc;simp only[hb];refine⟨c[a.off+i]'uh,?_⟩
   grind
  .unfold qw;grind
  .have r:h[({ block:=a.block,off:=a.off+i,spot:=U }:Addr).block]? = G (ae c e (lo,hi)):=hb;rw[Zfs r rfl];have s:(Z h a.block (ae (Z c (a.off+i) v) e (lo,hi)))[a.block]? = G (ae (Z c (a.off+i) v) e (lo,hi)):=by
    simp[g]
   refine Xf p f vs (i+1) _ _ s Fo JD.2 ?_
   grind [RW,Array.setIfInBounds_setIfInBounds]
theorem dG{p:D}(H:Tc (tn P t) p v K h):hw P (Instr.storeAt t p v) (fun _ h=>K undef h) h:=by
 unfold Tc at H;split at H
 .rename_i a n z;unfold Instr.storeAt;rw[Zk];show hw P (storeVar t a v) _ h;unfold storeVar;split at H
  .rename_i hlen;have g:v.cells.size=n:=by rw[<-L6,hlen];simp
   rw[Zk,run_sizeOf z];simp only[g,ne_eq,not_true_eq_false,if_false];show hw P (storeCells a v.cells.toList) _ h;split at H
   .rename_i cs;unfold qB at H;split at H
    .rename_i h' hh;unfold wr at hh;split at hh
     .rename_i c e lo hi hb;split at hh
      .rename_i f;let⟨r,w,q,u⟩:=f;simp only[Option.some.injEq]at hh;subst hh;exact Xf r q cs.toList 0 h c hb w u H
      .cases hh
     .cases hh
    .exact H.elim
   .rename_i j;have s:v.cells.toList=[v]:=by cases v<;>first|rfl|exact (j _ rfl).elim
    rw[s];unfold qB at H;split at H
    .rename_i h' hh;unfold Uf at hh;split at hh
     .rename_i c e lo hi hb;split at hh
      .rename_i f;let⟨r,w,q,u⟩:=f;simp only[Option.some.injEq]at hh;subst hh;refine Xf r q [v] 0 h c hb Fo zK ?_;have C:(XB c.toList (a.off+0) [v]).toArray=Z c a.off v:=by
        rw[RW,Nat.add_zero];apply bk.1;rw[bc]
        cases A:(c.toList.set a.off v)<;>simp[XB]
       grind
      .cases hh
     .cases hh
    .exact H.elim
  .exact H.elim
 .exact H.elim
theorem dH{p:D}(H:O1 (tf P t i) p K h):hw P (Instr.fieldAt t p i) K h:=by
 unfold O1 at H;split at H
 .rename_i o a c;unfold tf at c;split at c
  .rename_i r j;unfold Instr.fieldAt;rw[Zk,ZL j]
   cases g:r[i]? with
   | none=>rw[g]at c;cases c
   | some f=>
    rw[g]at c;simp only[aw]at c;split at c
    .rename_i m q;simp only[Option.some.injEq]at c;subst c;simp only[g];simp only[Instr.sureAddr,fieldPlace,Zk,ZS,run_sizeOf q,if_neg (Nat.succ_ne_zero m)];exact H
    .cases c
  .cases c
 .exact H.elim
theorem Zaf{p i:D}(H:vIx (XJ P t) (Un P t) (tn P) p i K h):hw P (Instr.indexAt t p i) K h:=by
 unfold vIx at H;split at H
 .rename_i k i;split at H
  .rename_i len e a f c;split at H
   .rename_i n j;unfold XJ at f;split at f
    .rename_i m q g;simp only[Option.some.injEq,Prod.mk.injEq]at f;obtain⟨rfl,rfl⟩:=f;split at H
     .rename_i hb;simp only[Instr.indexAt,asIntOf,Instr.sureAddr,Zk,ZS,ZL g,if_pos hb,run_sizeOf j];exact H
     .exact H.elim
    .cases f
   .exact H.elim
  .rename_i e a len cap f c;split at H
   .rename_i n j;unfold Un at c;split at c
    .rename_i q g;simp only[Option.some.injEq]at c;subst c;split at H
     .rename_i hb;simp only[Instr.indexAt,asIntOf,Instr.sureAddr,Zk,ZS,ZL g,if_pos hb,run_sizeOf j];exact H
     .exact H.elim
    .cases c
   .exact H.elim
  .exact H.elim
 .exact H.elim
theorem Cv(H:VD v i K h):hw P (Instr.extract v i) K h:=by
 unfold VD at H;split at H
 .rename_i vs;unfold IF at H;split at H
  .rename_i v c;simp only[Instr.extract,c];exact H
  .exact H.elim
 .exact H.elim
theorem kh{f:D}{c:Call}{args:List D}(hc:c.callee=.value x)(q:ev F x=f)(r:(c.args.map (ev F)).toList=args)(H:FY P T f args K h):
  hw P (do let d <-resolve (ev F) c ty;invoke d.target d.args) (JX P T K) h:=by
 unfold FY at H;split at H
 .rename_i f first captured;have e:first++c.args.map (ev F)++captured=(first.toList++args++captured.toList).toArray:=by rw[<-r];simp
  by_cases g:goes P f=true
  case neg=>
   rw[if_neg g]at H;simp only[resolve,hc,q,Deferred.ofValue,Zk,ZS,invoke];rw[e];exact H
  rw[if_pos g]at H;unfold goes at g;split at g
  .rename_i fn j;simp only[ax,Bool.not_eq_true']at g;have p:fn.body.isNone=false:=by
    cases hb:fn.body with
    | none=>grind
    | some _=>rfl
   simp only[resolve,hc,q,Deferred.ofValue,Zk,ZS,invoke,callFunc,j9,j,g.1,aX,if_false,p];rw[e];exact H
  .cases g
 .exact H.elim
theorem Fw{z:List D}(c:tz P t=G z):∃v,v.cells=(Y z)/\∀{Q:D->Hp->Prop} {h:Hp},hw P (zeroValue t) Q h=Q v h:=by
 unfold tz at c
 cases hi:P.info? t with
 | none=>rw[hi]at c;cases c
 | some i=>
  rw[hi]at c
  cases f:i.zero with
  | none=>rw[aw,f]at c;cases c
  | some v=>
   rw[aw,f]at c;simp only[aF,Option.some.injEq]at c;refine⟨v,zK,fun {Q h}=>?_⟩;unfold zeroValue;rw[Zk,Jp hi];simp only[f];rfl
theorem Bo(off:Nat):∀(vs:List D) (k:Nat) (cells:Array D),
  ((vs.zipIdx k).foldl (fun (cs:Array D) (x:D × Nat)=>Z cs (off+x.2) x.1) cells).toList=XB cells.toList (off+k) vs
 | [],k,cells=>by cases h:cells.toList<;>simp[XB,h]
 | v :: vs,k,cells=>by
  rw[List.zipIdx_cons,List.foldl_cons,Bo off vs (k+1),RW,bc,Nat.add_assoc]
theorem Fx:∀(parts:List (Nat × D)) (cs:List D) (c:List D),VE place cs parts=G c->Instr.fill place (Y cs) parts=G (Y c)
 | [],cs,c,h=>by simp only[VE,Option.some.injEq]at h;subst h;rfl
 | (i,v) :: l,cs,c,h=>by
  unfold VE at h;unfold Instr.fill
  cases g:place i with
  | none=>grind
  | some os=>
   let⟨o,s⟩:=os;rw[g]at h;simp only at h ⊢;split at h
   .rename_i hc;have f:v.cells.size=s:=by rw[<-L6];simpa using hc.1
    have p:¬((decide (v.cells.size≠s)||decide (o+v.cells.size>cs.toArray.size))=true):=by
     rw[f];simp;omega
    rw[if_neg p];have e:(v.cells.zipIdx.foldl (fun (cs:Array D) (x:D × Nat)=>Z cs (o+x.2) x.1) (Y cs))=(XB cs o (cl v)).toArray:=by
     apply bk.1;have:=Bo o (cl v) 0 (Y cs);rw[<-L6,b1,<-Array.foldl_toList];have j:(cl v).mapIdx (fun i a=>(a,i))=(cl v).zipIdx 0:=by
      apply List.ext_getElem?;intro i;simp[List.getElem?_zipIdx]
     simpa [b1,j] using this
    have key:=Fx l _ _ h
    grind
   .cases h
theorem X2(l:List α)(n:Nat):nth l n=l[n]?:=by
 induction l generalizing n with
 | nil=>simp[nth]
 | cons x l c=>cases n<;>simp[nth,c]
theorem qF(F:Env)(l:List (Nat × aH)):j7 F l=l.map fun x=>(x.1,ev F x.2):=by
 induction l with
 | nil=>rfl
 | cons x l c=>let⟨i,x⟩:=x;simp[j7,c]
theorem run_places:∀(l:List Field) (Q:List (Nat × Nat)->Hp->Prop) (c:List (Nat × Nat)),l.mapM (fun f:Field=>(tn P f.type).map fun n=>(f.offset,n))=G c ->
  Q c h->hw P (l.mapM fun f:Field=>do pure (f.offset,<-sizeOf f.type)) Q h
 | [],Q,c,hp,H=>by
  simp only[List.mapM_nil,pure,Option.some.injEq]at hp;subst hp;exact H
 | f :: l,Q,c,hp,H=>by
  rw[bb]at hp
  cases j:tn P f.type with
  | none=>rw[j]at hp;cases hp
  | some n=>
   rw[j]at hp
   cases p:l.mapM (fun f:Field=>(tn P f.type).map fun n=>(f.offset,n)) with
   | none=>simp[p]at hp
   | some g=>
    simp[p]at hp;subst hp;rw[bb,Zk,Zk,run_sizeOf j];show hw P (_ >>= _) Q h;rw[Zk];exact run_places l _ g p H
theorem dI{parts:Array (Nat × aH)}(H:Lg (tz P t) (ME P t) (XJ P t) (tn P) (j7 F parts.toList) K h):hw P (Instr.build t (parts.map fun (i,x)=>(i,ev F x))) K h:=by
 have C:(parts.map fun (i,x)=>(i,ev F x)).toList=j7 F parts.toList:=by rw[qF,a4]
 unfold Instr.build;rw[C];unfold Lg at H;split at H
 .rename_i z j p g _;let⟨v,q,c⟩:=Fw p;rw[Zk,c,Zk,q];unfold ME at g;split at g
  .rename_i w r;rw[ZL r];simp only;rw[Zk,<-Array.toArray_toList (xs:=w),bK,map_eq_pure_bind,Zk];refine run_places w.toList _ j g ?_;unfold G8 at H;split at H
   .rename_i cs u;have s:(fun i=>(Y j)[i]?)=nth j:=by funext i;rw[X2];simp
    have:=Fx _ _ _ u;rw[<-s]at this;simp only[ZS,this];exact H
   .exact H.elim
  .cases g
 .rename_i z n e p _ f;let⟨v,q,c⟩:=Fw p;rw[Zk,c,Zk,q];unfold XJ at f;split at f
  .rename_i n' I r;simp only[Option.some.injEq,Prod.mk.injEq]at f;obtain⟨rfl,rfl⟩:=f;rw[ZL r];simp only;unfold Fs at H;split at H
   .rename_i m A;rw[Zk,run_sizeOf A];unfold G8 at H;split at H
    .rename_i cs u;have:=Fx _ _ _ u;have s:(fun i=>G (i*m,m))=Kd m:=rfl;rw[s];simp only[this];exact H
    .exact H.elim
   .exact H.elim
  .cases f
 .exact H.elim
theorem qH(z:List D)(f:z≠[]):∀(len:Nat),(bd (len*(M z))).map (fun j=>(Y z)[j%z.toArray.size]!)=(Ug len z).toArray:=by
 have p:0<(M z):=a9.2 f;have hlen:∀len,(Ug len z).length=len*(M z):=by
  intro len
  induction len with
  | zero=>simp[Ug]
  | succ n c=>simp[Ug,c,Nat.add_mul,Nat.add_comm]
 have g:∀len j,j<len*(M z)->(Ug len z)[j]? = z[j%(M z)]?:=by
  intro len
  induction len with
  | zero=>grind
  | succ n c=>
   grind [Ug,Nat.mod_eq_of_lt,List.getElem?_append_right,Nat.mod_eq_sub_mod]
 grind
theorem O3(z:List D):∀n,(Ug n z).length=n*(M z):=by
 intro len
 induction len with
 | zero=>simp[Ug]
 | succ n c=>simp[Ug,c,Nat.add_mul,Nat.add_comm]
theorem Bp:∀(parts:List (Nat × D)) (pre vs rest:List D),j8 (M pre) parts=G vs->(M rest)=(M parts)->VE (Kd 1) (pre++rest) parts=G (pre++vs)
 | [],pre,vs,rest,h,hl=>by
  grind [VE,j8]
 | (i,v) :: l,pre,vs,rest,h,hl=>by
  unfold j8 at h;split at h
  .rename_i hc;obtain⟨rfl,f⟩:=hc
   cases g:j8 ((M pre)+1) l with
   | none=>grind
   | some c=>
    rw[g]at h;simp only[aF,Option.some.injEq]at h;subst h
    cases rest with
    | nil=>simp at hl
    | cons r rest=>
     have q:cl v=[v]:=by cases v<;>first|rfl|(simp[YV]at f)
     have p:XB (pre++r :: rest) (M pre) [v]=(pre++[v])++rest:=by
      rw[RW];simp[XB]
     have j:=Bp l (pre++[v]) c rest zK zK
     grind [VE,Kd]
  .cases h
theorem Cw{parts:Array (Nat × aH)}(H:Ke (Un P t) (tn P) (tz P) len (j7 F parts.toList) K h):hw P (Instr.buildSlice t len (parts.map fun (i,x)=>(i,ev F x))) K h:=by
 have C:(parts.map fun (i,x)=>(i,ev F x)).toList=j7 F parts.toList:=by rw[qF,a4]
 unfold Instr.buildSlice;rw[C];unfold Ke at H;split at H
 .rename_i e f;unfold Un at f;split at f
  .rename_i I s;simp only[Option.some.injEq]at f;subst f;unfold Me at H;split at H
   .rename_i n z u r;split at H
    .rename_i hc;let⟨p,hle⟩:=hc;unfold qC at H;split at H
     .rename_i l g;have q:VE (Kd n) (Ug len z) (j7 F parts.toList)=G l:=by
       unfold Fu at g;split at g
       .rename_i hc;obtain⟨rfl,S⟩:=hc;have:=Bp (j7 F parts.toList) [] l (Ug len z) g (by rw[O3,p,S,Nat.mul_one])
        grind
       .exact g
      rw[Zk,ZL s];simp only;rw[Zk,run_sizeOf u,if_neg uh];have fin:∀c:Array D,(bd (len*n)).map (fun j=>c[j%c.size]!)=(Ug len z).toArray->hw P (match Instr.fill (fun i=>G (i*n,n)) ((bd (len*n)).map (fun j=>c[j%c.size]!)) (j7 F parts.toList) with
        | some cells=>do
         let a <-newRow I cells
         pure (Value.slice (G a) len len)
        | x=>stuck "buildSlice: a part of the wrong size") K h:=by
       intro c L;have:=Fx _ _ _ q;have A:(fun i=>G (i*n,n))=Kd n:=rfl;rw[A,L];simp only[this];exact H
      split
      .rename_i w;refine fin #[] ?_
       grind [O3]
      .rename_i w;let⟨v,V,hr⟩:=Fw r;rw[Zk,hr];refine fin v.cells ?_
       grind [qH]
     .exact H.elim
    .exact H.elim
   .exact H.elim
  .cases f
 .exact H.elim
theorem F0{cs:Array D}(H:HI (ta P t) (tn P t) cs.toList o K h):hw P (part t cs o) K h:=by
 unfold HI at H;unfold part;rw[Zk];split at H
 .rename_i n c g;rw[TG c,if_pos rfl,Zk,run_sizeOf g];have e:(cs.extract o (o+n))=((cs.toList.drop o).take n).toArray:=by
   apply bk.1;simp[List.extract_eq_take_drop]
  rw[e];exact H
 .rename_i c;rw[TG c,if_neg zX];unfold IF at H;split at H
  .rename_i v f;rw[X2]at f;have:cs[o]? = G v:=by rw[<-bp];exact f
   simp only[this];exact H
  .exact H.elim
 .exact H.elim
theorem uw{x:D}(H:Zae (tfl P t i) (ta P) (tn P) x K h):hw P (Instr.field t x i) K h:=by
 unfold Zae at H;split at H
 .rename_i o q cs c;unfold tfl at c;split at c
  .rename_i p j;unfold Instr.field;rw[Zk,ZL j]
   cases g:p[i]? with
   | none=>rw[g]at c;cases c
   | some f=>
    rw[g]at c;simp only[aF,Option.some.injEq,Prod.mk.injEq]at c;obtain⟨rfl,rfl⟩:=c;simp only[g];exact F0 H
  .cases c
 .exact H.elim
theorem uy{x i:D}(H:ur (XJ P t) (VC P t) (ta P) (tn P) x i K h):hw P (Instr.index t x i) K h:=by
 unfold ur at H;split at H
 .rename_i k i;split at H
  .rename_i len e cs c _;unfold XJ at c;split at c
   .rename_i n' u f;simp only[Option.some.injEq,Prod.mk.injEq]at c;obtain⟨rfl,rfl⟩:=c;unfold qD at H;split at H
    .rename_i m p;split at H
     .rename_i hc;unfold Instr.index;simp only[asIntOf,Zk,ZS,ZL f,if_pos hc,run_sizeOf p];exact F0 zK
     .exact H.elim
    .exact H.elim
   .cases c
  .rename_i s _ g;unfold VC at g;split at g
   .rename_i f;split at H
    .rename_i hc;unfold Instr.index;have j:i.toNat<s.size:=uh;have e:s[i.toNat]? = G s[i.toNat]:=by exact getElem?_pos s i.toNat j
     have r:s.data.toList.getD i.toNat 0=s[i.toNat]:=by
      have q:i.toNat<(M s.data.toList):=by simpa using j
      rw[List.getD_eq_getElem?_getD,aL q,Option.getD_some];rfl
     simp only[asIntOf,Zk,ZS,ZL f,if_pos hc.1,e]
     grind
    .exact H.elim
   .cases g
  .exact H.elim
 .exact H.elim
theorem F6{x:Option D}{y:Nat}{c:BoundsCode}(j:x=G v)(f:sb x 0 y=G n){Q:Nat->Hp->Prop}:hw P (Instr.sliceBound v y c) Q h=Q n h:=by
 subst j;unfold sb at f;split at f
 .rename_i g;cases g
 .rename_i k i g;simp only[Option.some.injEq]at g;subst g;split at f
  .rename_i hc;simp only[Option.some.injEq]at f;subst f;unfold Instr.sliceBound;simp only[asIntOf,Zk,ZS,if_pos hc]
  .cases f
 .cases f
theorem Lh{f:Bool}{l:Nat}{hi:Option D}(hb:sb hi len cap=G b)(g:sb lo 0 b=G l){Q:Nat × Nat × Nat->Hp->Prop}(H:Q (l,b,cap) h):hw P (Instr.sliceBounds f len cap lo hi U) Q h:=by
 have j:∀{c:BoundsCode},hw P (match lo with
   | some v=>do
    let l <-Instr.sliceBound v b c
    pure (l,b,cap)
   | none=>do
    let l <-pure 0
    pure (l,b,cap)) Q h:=by
  intro c
  cases lo with
  | none=>simp only[sb,Option.some.injEq]at g;subst g;exact H
  | some v=>
   simp only;rw[Zk,F6 rfl g];exact H
 unfold Instr.sliceBounds;rw[Zk];show hw P (pure cap) _ h;rw[ZS]
 cases hi with
 | none=>
  simp only[sb,Option.some.injEq]at hb;subst hb;exact j
 | some v=>
  have p:sb (G v) 0 cap=G b:=by unfold sb at hb ⊢;cases v<;>simp at hb ⊢<;>exact hb
  simp only;rw[Zk,F6 rfl p];exact j
theorem dK{g:Bool}{l:Nat}{c f:D}(p:sb (G f) 0 cap=G m)(hb:sb (G c) len m=G b)(j:sb lo 0 b=G l){Q:Nat × Nat × Nat->Hp->Prop}(H:Q (l,b,m) h):hw P (Instr.sliceBounds g len cap lo (G c) (G f)) Q h:=by
 have q:sb (G c) 0 m=G b:=by unfold sb at hb ⊢;cases c<;>simp at hb ⊢<;>exact hb
 unfold Instr.sliceBounds;rw[Zk];show hw P (Instr.sliceBound f cap _) _ h;rw[F6 rfl p,Zk,F6 rfl q]
 cases lo with
 | none=>simp only[sb,Option.some.injEq]at j;subst j;exact H
 | some v=>
  show hw P (Instr.sliceBound v b _ >>= _) _ h;rw[Zk,F6 rfl j];exact H
theorem uz{x:D}{lo hi q:Option aH}(H:Cu (XJ P t) (Un P t) (VC P t) (tn P) x (qE F lo) (qE F hi) (qE F q) K h):hw P (Instr.sliceAt t x (lo.map (ev F)) (hi.map (ev F)) (q.map (ev F))) K h:=by
 have e:∀o,qE F o=o.map (ev F):=fun o=>by cases o<;>rfl
 rw[e,e,e]at H;generalize lo.map (ev F)=lo at *;generalize hi.map (ev F)=hi at *;generalize q.map (ev F)=q at *;unfold Cu at H;split at H
 .rename_i z a len cap e g c;unfold Un at c;split at c
  .rename_i u f;simp only[Option.some.injEq]at c;subst c;split at H
   .rename_i A m w;unfold OG at H;split at H
    .rename_i n b p hb;split at H
     .rename_i l j;unfold Instr.sliceAt;rw[Zk,ZL f];simp only;unfold Instr.slice;rw[Zk,ZL f];simp only;rw[Zk];refine dK w hb j ?_;simp only[Zk,run_sizeOf p,ZS];exact H
     .exact H.elim
    .exact H.elim
   .exact H.elim
  .cases c
 .rename_i a len cap e g c;unfold Un at c;split at c
  .rename_i u f;simp only[Option.some.injEq]at c;subst c;unfold OG at H;split at H
   .rename_i n b p hb;split at H
    .rename_i l j;unfold Instr.sliceAt;rw[Zk,ZL f];simp only;unfold Instr.slice;rw[Zk,ZL f];simp only;rw[Zk];refine Lh hb j ?_;simp only[Zk,run_sizeOf p,ZS];exact H
    .exact H.elim
   .exact H.elim
  .cases c
 .rename_i a len e g c;unfold XJ at g;split at g
  .rename_i n' u f;simp only[Option.some.injEq,Prod.mk.injEq]at g;obtain⟨rfl,rfl⟩:=g;unfold OG at H;split at H
   .rename_i n b p hb;split at H
    .rename_i l j;unfold Instr.sliceAt;rw[Zk,ZL f];simp only[Instr.sureAddr,Zk,ZS];refine Lh hb j ?_;simp only[Zk,run_sizeOf p,ZS]
     grind
    .exact H.elim
   .exact H.elim
  .cases g
 .rename_i s g c r;unfold VC at r;split at r
  .rename_i f;split at H
   .rename_i b hb;split at H
    .rename_i l j;unfold Instr.sliceAt;rw[Zk,ZL f];simp only;unfold Instr.slice;rw[Zk,ZL f];simp only[Option.isSome_none,aX,if_false];rw[Zk];refine Lh hb j ?_;exact H
    .exact H.elim
   .exact H.elim
  .cases r
 .exact H.elim
theorem Zah{l c:D}(H:vMk (Un P t) (tn P) (tb P) (tz P) l c K h):hw P (Instr.makeSlice t l c) K h:=by
 unfold vMk at H;split at H
 .rename_i e k l k' c p;unfold Un at p;split at p
  .rename_i r S;simp only[Option.some.injEq]at p;subst p;unfold Zfr at H;split at H
   .rename_i n bytes z u s L;split at H
    .rename_i hc;let⟨I,w,V,aq,Xq⟩:=hc;obtain⟨C,A⟩:∃i,P.info? r=G i:=by
      unfold tn at u
      cases hi:P.info? r with
      | none=>grind
      | some i=>grind
     have HJ:C.bytes=bytes:=by unfold tb at s;rw[A]at s;simpa using s
     have w1:IntKind.i64.wrap l=l:=bt l ⟨uh,uh⟩;have w2:IntKind.i64.wrap c=c:=bt c ⟨uh,uh⟩;have ao:¬((bytes:Int)*c>2 ^ 48):=uh;unfold Instr.makeSlice;simp only[Zk,ZL S,asInt,asIntOf,ZS,Jp A,w1,w2,HJ];have Kf:¬((decide (c<0)||decide ((bytes:Int)*c>2 ^ 48)||decide (l<0)||decide (l>c))=true):=by
      simp;omega
     rw[if_neg Kf];have Li:∀{Q:Unit->Hp->Prop} (b:Nat) (g:Hp),Q () g->hw P (askRoom b) Q g:=fun {Q} b g q=>by
      unfold askRoom;split<;>exact q
     rw[Zk];refine Li _ _ ?_;rw[Zk,run_sizeOf u];have fin:∀f:Array D,(bd (c.toNat*n)).map (fun j=>f[j%f.size]!)=(Ug c.toNat z).toArray->hw P (do
       let a <-newRow r ((bd (c.toNat*n)).map (fun j=>f[j%f.size]!))
       pure (Value.slice (G a) l.toNat c.toNat)) K h:=by
      intro f W;rw[W];exact H
     split
     .rename_i w;refine fin #[] ?_
      grind [O3]
     .rename_i w;let⟨v,hv,hr⟩:=Fw L;rw[Zk,hr];refine fin v.cells ?_
      grind [qH]
    .exact H.elim
   .exact H.elim
  .cases p
 .exact H.elim
theorem dL{r:Op}(H:Sy P T r ty K F h):Bj P T ⟨U,r,ty, "", #[],U⟩ K F h:=by
 have lift:∀{s:Sem D},hw P s K h->hw P (do pure (Next.value (<-s))) (JX P T K) h:=fun {s} H=>by rw[Zk];exact H
 unfold Sy at H;split at H
 .exact H
 .exact H
 .rename_i c a b;show hw P (do pure (.value (if <-asBool (ev F c) then ev F a else ev F b))) (JX P T K) h;unfold Bn at H;split at H
  .rename_i t u;rw[u];cases t<;>exact H
  .exact H.elim
 .rename_i e;refine lift ?_;unfold Zad tz at H;split at H
  .rename_i l g
   cases hi:P.info? e with
   | none=>rw[hi]at g;cases g
   | some i=>
    rw[hi]at g
    cases p:i.zero with
    | none=>rw[aw,p]at g;cases g
    | some z=>
     rw[aw,p]at g;simp only[aF,Option.some.injEq]at g;subst g;simp only[Instr.alloc,zeroValue,Zk,Jp hi,p,newVar,newRow,newObj,ZS,hw]
     simpa using H
  .exact H.elim
 .rename_i e x;refine lift ?_;simp only[Zad,L6]at H;simp only[Instr.box,newVar,newRow,newObj,Zk,ZS];exact H
 .exact lift (kf H)
 .refine (?_:hw P (do Instr.storeAt _ _ _;pure Next.skip) (JX P T K) h);rw[Zk];exact dG H
 .exact lift (dH H)
 .exact lift (Zaf H)
 .rename_i x;unfold j6 at H;split at H
  .rename_i a q;show hw P (match ev F x with|.pointer U|.nilIface|.nilFunc=>_|.func (.method name) first captured=>_|x=>_) _ h;rw[q];exact H
  .rename_i f a b q;show hw P (match ev F x with|.pointer U|.nilIface|.nilFunc=>_|.func (.method name) first captured=>_|x=>_) _ h;rw[q];exact H
  grind
 .exact lift H
 .exact lift H
 .exact lift H
 .exact lift (Cv H)
 .rename_i fn first captured;refine lift ?_;have j:∀l:Array aH,l.map (ev F)=(uo F l.toList).toArray:=fun l=>by rw[ab,<-a4]
  show hw P (Instr.makeFunc fn (first.map (ev F)) (captured.map (ev F))) K h;rw[j,j];exact H
 .rename_i f args ts;exact kh (x:=f) (c:=⟨.value f,args,ts⟩) rfl rfl (by rw[ab];simp) H
 .rename_i b args ts;have j:args.map (ev F)=(uo F args.toList).toArray:=by rw[ab,<-a4]
  unfold OV at H;rw[<-j]at H;exact H
 .exact lift (dI H)
 .exact lift (Cw H)
 .exact lift (uw H)
 .exact lift (uy H)
 .exact lift (uz H)
 .exact lift (Zah H)
 .exact H
theorem TH{o:Oper}(H:Sy P T o.op o.type K F h):Bj P T o K F h:=dL H
def Vg:List Oper->Env->Nat->D
 | [],_,_=>undef
 | o :: _,F,0=>match o.dst with|some t=>F t|none=>undef
 | _ :: l,F,n+1=>Vg l F n
def Qd(v:D)(b:Bool)(A B:Prop):Prop:=match v with|al c=>if c=b then A else B|_=>B
def Kg(P:ak)(T:am)(ops:List Oper)(N:Env->Hp->Prop):List Oper->Env->Hp->Prop
 | [],F,h=>N F h
 | ⟨d,op,ty,_,_,U⟩ :: l,F,h=>Sy P T op ty (fun v h'=>Kg P T ops N l (Y5 F d v) h') F h
 | ⟨d,op,ty,_,_,G (j,b)⟩ :: l,F,h=>Qd (Vg ops F j) b (Sy P T op ty (fun v h'=>Kg P T ops N l (Y5 F d v) h') F h) (Kg P T ops N l (Y5 F d undef) h)
theorem Cx(ops:List Oper)(F:Env):∀j,VB (Y ops) F j=match Vg ops F j with|al b=>G b|_=>U:=by
 intro j;unfold VB;rw[bq]
 induction ops generalizing j with
 | nil=>rfl
 | cons o l c=>
  cases j with
  | zero=>simp only[bl,aw,Vg];cases o.dst<;>rfl
  | succ j=>simp only[bn,Vg];exact c j
theorem Qp(ops:List Oper)(F:Env)(d:Option Tmp)(c:Op)(pos:String)(f:Array Edge)(j:Nat)(b:Bool){A B:Prop}(H:Qd (Vg ops F j) b A B):
  (Xv (Y ops) ⟨d,c,ty,pos,f,G (j,b)⟩ F=true/\A)\/(Xv (Y ops) ⟨d,c,ty,pos,f,G (j,b)⟩ F=false/\B):=by
 unfold Xv a5;simp only[Cx];unfold Qd at H
 grind
theorem VF{c:Op}{f:D->Hp->Prop}(g:∀v h,K v h->f v h)(H:Sy P T c ty K F h):Bj P T ⟨U,c,ty, "", #[],U⟩ f F h:=L0 g (dL H)
theorem To:∀(l:List Oper) (F:Env) (h:Hp),Kg P T ops N l F h->uj P T (Y ops) N l F h
 | [],F,h,H=>H
 | ⟨d,c,ty,pos,f,U⟩ :: l,F,h,H=>by
  show (if Xv (Y ops) _ F=true then _ else _);rw[if_pos (by rfl)];exact VF (fun v h' q=>To l _ _ q) H
 | ⟨d,c,ty,pos,f,G (j,b)⟩ :: l,F,h,H=>by
  show (if Xv (Y ops) _ F=true then _ else _);rcases Qp ops F d c pos f j b H with⟨hw,H⟩|⟨hw,H⟩
  .rw[if_pos hw];exact VF (fun v h' q=>To l _ _ q) H
  .rw[hw,if_neg zX];exact To l _ _ H
def SG(P:ak)(T:am)(ops:List Oper)(S:Hp->Prop)(N:Env->Hp->Prop):List (Nat × Bool × Oper)->Env->Hp->Prop
 | [],F,h=>N F h
 | (_,true,⟨d,op,ty,_,_,U⟩) :: l,F,h=>∃v,(∀h',S h'->Sy P T op ty (fun c f=>c=v/\f=h') F h')/\SG P T ops S N l (Y5 F d v) h
 | (_,false,⟨d,op,ty,_,_,U⟩) :: l,F,h=>Sy P T op ty (fun v h'=>S h'/\SG P T ops S N l (Y5 F d v) h') F h
 | (_,true,⟨d,op,ty,_,_,G (j,b)⟩) :: l,F,h=>Qd (Vg ops F j) b (∃v,(∀h',S h'->Sy P T op ty (fun c f=>c=v/\f=h') F h')/\SG P T ops S N l (Y5 F d v) h) (SG P T ops S N l (Y5 F d undef) h)
 | (_,false,⟨d,op,ty,_,_,G (j,b)⟩) :: l,F,h=>Qd (Vg ops F j) b (Sy P T op ty (fun v h'=>S h'/\SG P T ops S N l (Y5 F d v) h') F h) (SG P T ops S N l (Y5 F d undef) h)
theorem J2{S:Hp->Prop}:∀(l:List (Nat × Bool × Oper)) (F:Env) (h:Hp),SG P T ops S N l F h->HH P T ops.toArray S N l F h
 | [],F,h,H=>H
 | (i,true,⟨d,c,ty,pos,f,U⟩) :: l,F,h,H=>by
  show (if Xv ops.toArray _ F=true then _ else _);rw[if_pos (by rfl)];let⟨v,g,H⟩:=H;exact⟨v,fun h' p=>TH (g h' p),J2 l _ _ H⟩
 | (i,false,⟨d,c,ty,pos,f,U⟩) :: l,F,h,H=>by
  show (if Xv ops.toArray _ F=true then _ else _);rw[if_pos (by rfl)];exact VF (fun v h' q=>⟨q.1,J2 l _ _ q.2⟩) H
 | (i,true,⟨d,c,ty,pos,f,G (j,b)⟩) :: l,F,h,H=>by
  show (if Xv ops.toArray _ F=true then _ else _);rcases Qp ops F d c pos f j b H with⟨hw,H⟩|⟨hw,H⟩
  .rw[if_pos hw];let⟨v,g,H⟩:=H;exact⟨v,fun h' p=>TH (g h' p),J2 l _ _ H⟩
  .rw[hw,if_neg zX];exact J2 l _ _ H
 | (i,false,⟨d,c,ty,pos,f,G (j,b)⟩) :: l,F,h,H=>by
  show (if Xv ops.toArray _ F=true then _ else _);rcases Qp ops F d c pos f j b H with⟨hw,H⟩|⟨hw,H⟩
  .rw[if_pos hw];exact VF (fun v h' q=>⟨q.1,J2 l _ _ q.2⟩) H
  .rw[hw,if_neg zX];exact J2 l _ _ H
theorem VS.ZjJ{X:Nat->Env->Hp->Prop}{R:Env->Hp->Prop}{id:Nat}(p:P.follows .mixedOrders=true)(s:OZ n (Y ops) ((a3 ops.toArray.size).map fun i=>(i,true))=true)(H:SG P T ops (fun h'=>h'=h) N (ops.map fun o=>(0,true,o)) F h):VS P n T (.region id (Y ops) true) N X R F h:=by
 refine VS.quiet p s ?_;have key:∀(l:List Oper) (k:Nat) (F:Env),(∀j,l[j]? = ops[k+j]?)->SG P T ops (fun h'=>h'=h) N (l.map fun o=>(0,true,o)) F h ->
   SG P T ops (fun h'=>h'=h) N (Rh (Y ops) ((bS k (M l)).map fun i=>(i,true))) F h:=by
  intro l
  induction l with
  | nil=>intro k F _ H;exact H
  | cons o l w=>
   intro k F c H;have r:ops[k]? = G o:=by simpa using (c 0).symm
   have q:∀j,l[j]? = ops[k+1+j]?:=fun j=>by have:=c (j+1);grind
   have e:Rh (Y ops) ((bS k (o :: l).length).map fun i=>(i,true))=(k,true,o) :: Rh (Y ops) ((bS (k+1) (M l)).map fun i=>(i,true)):=by
    simp[Rh,List.range'_succ,r]
   rw[e];obtain⟨d,u,ty,pos,z,g⟩:=o
   cases g with
   | none=>
    grind [SG]
   | some f=>
    obtain⟨j,b⟩:=f;simp only[bY,SG]at H ⊢;unfold Qd at *
    grind
 have:=key ops 0 F (fun j=>by simp) H;rw[List.range_eq_range'];exact J2 _ _ _ this
def Zaj(v:D)(A B:Prop):Prop:=match v with|al b=>if b=true then A else B|_=>False
def vc(P:ak)(n:Nat)(T:am):Code->(Env->Hp->Prop)->(Nat->Env->Hp->Prop)->(Env->Hp->Prop)->Env->Hp->Prop
 | .skip,N,_,_,F,h=>N F h
 | .ret,_,_,R,F,h=>R F h
 | .exit j,_,X,_,F,h=>X j F h
 | .seq a b,N,X,R,F,h=>vc P n T a (fun F h=>vc P n T b N X R F h) X R F h
 | .cond c a b,N,X,R,F,h=>Zaj (ev F c) (vc P n T a N X R F h) (vc P n T b N X R F h)
 | .block j c,N,X,R,F,h=>vc P n T c N (fun i F h=>if i=j then N F h else X i F h) R F h
 | .region _ ops false,N,_,_,F,h=>Kg P T ops.toList N ops.toList F h
 | c,N,X,R,F,h=>VS P n T c N X R F h
def codeOk(n:Nat):Code->Bool
 | .seq a b=>codeOk n a&&codeOk n b
 | .cond _ a b=>codeOk n a&&codeOk n b
 | .block _ c=>codeOk n c
 | .region _ ops false=>FU n ops
 | _=>true
theorem QX:∀(c:Code) (N:Env->Hp->Prop) (X:Nat->Env->Hp->Prop) (R:Env->Hp->Prop) (F:Env) (h:Hp),codeOk n c=true->vc P n T c N X R F h->VS P n T c N X R F h:=by
 intro c
 induction c with
 | skip=>intro N X R F h _ H;exact VS.skip H
 | ret=>intro N X R F h _ H;exact VS.ret H
 | exit j=>intro N X R F h _ H;exact VS.exit H
 | seq a b p g=>
  intro N X R F h f H;simp only[codeOk,ax]at f;exact VS.seq (VS.mono (p _ _ _ _ _ f.1 H) (fun F h q=>g _ _ _ _ _ f.2 q) (fun _ _ _ q=>q) (fun _ _ q=>q))
 | cond c a b p g=>
  intro N X R F h f H;simp only[codeOk,ax]at f;simp only[vc,Zaj]at H;split at H
  .rename_i t s;refine VS.cond s (fun hb=>?_) (fun hb=>?_)
   .rw[if_pos hb]at H;exact p _ _ _ _ _ f.1 H
   .rw[if_neg (by simp[hb])]at H;exact g _ _ _ _ _ f.2 H
  .exact H.elim
 | block j c r=>intro N X R F h f H;exact VS.block (r _ _ _ _ _ f H)
 | region id ops draw=>
  intro N X R F h f H
  cases draw with
  | true=>exact H
  | false=>exact VS.region f (by simpa using To _ _ _ H)
 | _=>intro N X R F h _ H;exact H
theorem Zg.Zfu{f:FuncId}{fn:Func}{c:Code}{l:List ResultVar}{args:List D}(j:P.funcs[f]? = G fn)(hb:fn.body=G c)(g:fn.results=(Y l))(q:b0 (M args) fn.ntmps=true)(p:codeOk fn.ntmps c=true)(H:vc P fn.ntmps T c (fun F h'=>Cq P l F Q h') (fun _ _ _=>False) (fun F h'=>Cq P l F Q h') (G6 args 0) h):
  Zg P T f (Y args) h Q:=
 Zg.Fr j hb g zK (by simpa using QX _ _ _ _ _ _ p H)
end
section
variable {P:ak} {T:am} {K:D->Hp->Prop} {F:Env} {h:Hp} {ty:O}
def Zfv(P:ak)(T:am)(ops:List Oper)(N:Env->Hp->Prop)(l:List Oper)(F:Env)(d:Option Tmp):D->Hp->Prop:=fun v h=>Kg P T ops N l (Y5 F d v) h
theorem Zak{l:List Oper}:Zfv P T ops N l F d v h=Kg P T ops N l (Y5 F d v) h:=rfl
theorem Zal:Kg P T ops N [] F h=N F h:=rfl
theorem ki{l:List Oper}{c:Op}{pos:String}{f:Array Edge}:
  Kg P T ops N (⟨d,c,ty,pos,f,U⟩ :: l) F h=Sy P T c ty (Zfv P T ops N l F d) F h:=rfl
def kj(P:ak)(T:am)(ops:List Oper)(N:Env->Hp->Prop)(l:List Oper)(F:Env)(d:Option Tmp)(c:Op)(ty:O)(v:D)(b:Bool)(h:Hp):Prop:=
 Qd v b (Sy P T c ty (Zfv P T ops N l F d) F h) (Kg P T ops N l (Y5 F d undef) h)
theorem ko{l:List Oper}{c:Op}{pos:String}{f:Array Edge}{j:Nat}{b:Bool}:
  Kg P T ops N (⟨d,c,ty,pos,f,G (j,b)⟩ :: l) F h=kj P T ops N l F d c ty (Vg ops F j) b h:=rfl
theorem dM{l:List Oper}{f:Op}{b c:Bool}:
  kj P T ops N l F d f ty (.bool c) b h=if c=b then Sy P T f ty (Zfv P T ops N l F d) F h else Kg P T ops N l (Y5 F d undef) h:=rfl
def ZnE(P:ak)(n:Nat)(T:am)(b:Code)(N:Env->Hp->Prop)(X:Nat->Env->Hp->Prop)(R:Env->Hp->Prop):Env->Hp->Prop:=fun F h=>vc P n T b N X R F h
def ZnF(j:Nat)(N:Env->Hp->Prop)(X:Nat->Env->Hp->Prop):Nat->Env->Hp->Prop:=fun i F h=>if i=j then N F h else X i F h
def dN:Nat->Env->Hp->Prop:=fun _ _ _=>False
def kq(P:ak)(l:List ResultVar)(Q:D->Hp->Prop):Env->Hp->Prop:=fun F h=>Cq P l F Q h
def ZiH(P:ak)(n:Nat)(T:am)(v:D)(a b:Code)(N:Env->Hp->Prop)(X:Nat->Env->Hp->Prop)(R:Env->Hp->Prop)(F:Env)(h:Hp):Prop:=
 Zaj v (vc P n T a N X R F h) (vc P n T b N X R F h)
section
variable {n:Nat} {N:Env->Hp->Prop} {X:Nat->Env->Hp->Prop} {R:Env->Hp->Prop}
theorem Zam{b:Code}:ZnE P n T b N X R F h=vc P n T b N X R F h:=rfl
theorem Zan{j:Nat}:ZnF j N X i F h=if i=j then N F h else X i F h:=rfl
theorem uA:dN i F h=False:=rfl
theorem Zao{l:List ResultVar}:kq P l Q F h=Cq P l F Q h:=rfl
theorem Zfw:vc P n T .skip N X R F h=N F h:=rfl
theorem ZjK:vc P n T .ret N X R F h=R F h:=rfl
theorem Zfx{j:Nat}:vc P n T (.exit j) N X R F h=X j F h:=rfl
theorem ZjL{a b:Code}:vc P n T (.seq a b) N X R F h=vc P n T a (ZnE P n T b N X R) X R F h:=rfl
theorem Zfy{c:aH}{a b:Code}:vc P n T (.cond c a b) N X R F h=ZiH P n T (ev F c) a b N X R F h:=rfl
theorem Zap{j:Nat}{c:Code}:vc P n T (.block j c) N X R F h=vc P n T c N (ZnF j N X) R F h:=rfl
theorem uB{id:Nat}{l:List Oper}:vc P n T (.region id (Y l) false) N X R F h=Kg P T l N l F h:=rfl
theorem Zfz{id:Nat}{l:Array Oper}:vc P n T (.region id l true) N X R F h=VS P n T (.region id l true) N X R F h:=rfl
theorem ZfA{c:Code}:vc P n T (.loop c) N X R F h=VS P n T (.loop c) N X R F h:=rfl
theorem ku{a b:Code}{t:Bool}:ZiH P n T (al t) a b N X R F h=if t=true then vc P n T a N X R F h else vc P n T b N X R F h:=rfl
end
theorem Zg.Zaq{f:FuncId}{fn:Func}{c:Code}{l:List ResultVar}{args:List D}(p:P.funcs[f]? = G fn)(hb:fn.body=G c)(j:fn.results=(Y l))(g:b0 (M args) fn.ntmps=true)(q:codeOk fn.ntmps c=true)(H:vc P fn.ntmps T c (kq P l Q) dN (kq P l Q) (G6 args 0) h):Zg P T f (Y args) h Q:=Zg.Zfu p hb j g q H
theorem Zg.X8{f:FuncId}{fn:Func}{c:Code}{l:List ResultVar}(args:List D)(p:P.funcs[f]? = G fn)(H:vc P fn.ntmps T c (kq P l Q) dN (kq P l Q) (G6 args 0) h)(hb:fn.body=G c:=by rfl)(j:fn.results=(Y l):=by rfl)(g:b0 (M args) fn.ntmps=true:=by rfl)(q:codeOk fn.ntmps c=true:=by rfl):Zg P T f (Y args) h Q:=Zg.Zaq p hb j g q H
def Xz(I:Env->Hp->Prop)(μ:Env->Hp->Nat)(m:Nat):Env->Hp->Prop:=fun F h=>I F h/\μ F h<m
theorem VS.YC{X:Nat->Env->Hp->Prop}{R:Env->Hp->Prop}{c:Code}(I:Env->Hp->Prop)(μ:Env->Hp->Nat)(j:codeOk n c=true)(g:I F h)(round:∀F h,I F h->vc P n T c (Xz I μ (μ F h)) X R F h):VS P n T (.loop c) N X R F h:=
 VS.loop I μ g fun F h f=>QX _ _ _ _ _ _ j (round F h f)
theorem Zg.use{f:FuncId}{args:Array D}(c:Zg P T f args h Q)(H:∀v h',Q v h'->K v h'):Zg P T f args h K:=c.mono H
theorem Zg.pure{f:FuncId}{args:Array D}{r:D}(c:Zg P T f args h fun v h'=>v=r/\h'=h)(H:K r h):Zg P T f args h K:=
 c.mono fun _ _ ⟨j,g⟩=>by grind
def ap(B:D->Prop)(v:D):Prop:=B v
def OP(v:D)(h:Hp):D->Hp->Prop:=fun c h'=>c=v/\h'=h
def IG(P:ak)(T:am)(ops:List Oper)(N:Env->Hp->Prop):List Oper->Env->Hp->Prop
 | [],F,h=>N F h
 | ⟨d,op,ty,_,_,U⟩ :: l,F,h=>∃v,Sy P T op ty (OP v h) F h/\IG P T ops N l (Y5 F d v) h
 | ⟨d,op,ty,_,_,G (j,b)⟩ :: l,F,h=>Qd (Vg ops F j) b (∃v,Sy P T op ty (OP v h) F h/\IG P T ops N l (Y5 F d v) h) (IG P T ops N l (Y5 F d undef) h)
theorem U7:∀(l:List Oper) (F:Env),IG P T ops N l F h->SG P T ops (fun h'=>h'=h) N (l.map fun o=>(0,true,o)) F h
 | [],_,H=>H
 | ⟨d,op,ty,pos,Rj,U⟩ :: l,F,H=>by
  let⟨v,f,H⟩:=H;exact⟨v,fun h' e=>by subst e;exact f,U7 l _ H⟩
 | ⟨d,op,ty,pos,Rj,G (j,b)⟩ :: l,F,H=>by
  simp only[IG,Qd]at H;simp only[bY,SG,Qd];split at H
  .split at H
   .rename_i c;rw[if_pos c];let⟨v,f,H⟩:=H;exact⟨v,fun h' e=>by subst e;exact f,U7 l _ H⟩
   .rename_i c;rw[if_neg c];exact U7 l _ H
  .exact U7 l _ H
theorem VS.q{X:Nat->Env->Hp->Prop}{R:Env->Hp->Prop}{id:Nat}(c:P.follows .mixedOrders=true)(f:OZ n (Y ops) ((a3 ops.toArray.size).map fun i=>(i,true))=true)(H:IG P T ops N ops F h):VS P n T (.region id (Y ops) true) N X R F h:=VS.ZjJ c f (U7 _ _ H)
def qK(P:ak)(T:am)(ops:List Oper)(N:Env->Hp->Prop)(l:List Oper)(F:Env)(d:Option Tmp)(h:Hp):D->Prop:=fun v=>IG P T ops N l (Y5 F d v) h
def ad(P:ak)(T:am)(c:Op)(ty:O)(B:D->Prop)(F:Env)(h:Hp):Prop:=∃v,Sy P T c ty (OP v h) F h/\ap B v
def Zar(P:ak)(T:am)(ops:List Oper)(N:Env->Hp->Prop)(l:List Oper)(F:Env)(d:Option Tmp)(c:Op)(ty:O)(v:D)(b:Bool)(h:Hp):Prop:=
 Qd v b (ad P T c ty (qK P T ops N l F d h) F h) (IG P T ops N l (Y5 F d undef) h)
theorem Zas:IG P T ops N [] F h=N F h:=rfl
theorem kv{l:List Oper}{c:Op}{pos:String}{f:Array Edge}:
  IG P T ops N (⟨d,c,ty,pos,f,U⟩ :: l) F h=ad P T c ty (qK P T ops N l F d h) F h:=rfl
theorem kw{l:List Oper}{c:Op}{pos:String}{f:Array Edge}{j:Nat}{b:Bool}:
  IG P T ops N (⟨d,c,ty,pos,f,G (j,b)⟩ :: l) F h=Zar P T ops N l F d c ty (Vg ops F j) b h:=rfl
theorem dO{l:List Oper}{f:Op}{b c:Bool}:
  Zar P T ops N l F d f ty (al c) b h=if c=b then ad P T f ty (qK P T ops N l F d h) F h else IG P T ops N l (Y5 F d undef) h:=rfl
theorem ZjM{l:List Oper}:qK P T ops N l F d h v=IG P T ops N l (Y5 F d v) h:=rfl
def qR(x:Option D)(B:D->Prop):Prop:=match x with|some v=>ap B v|none=>False
theorem ZfB{B:D->Prop}:qR (G v) B=B v:=rfl
theorem qEq{B:D->Prop}:(∃u,OP u h v h/\ap B u)=B v:=by
 apply propext;constructor
 .rintro⟨u,⟨e,_⟩,H⟩;subst e;exact H
 .intro H;exact⟨v,⟨rfl,rfl⟩,H⟩
section
variable {B:D->Prop}
theorem Zat:ad P T (.move x) ty B F h=B (ev F x):=qEq
theorem ky:ad P T (.assign x) ty B F h=B (ev F x):=qEq
def Zau(c a b:D)(B:D->Prop):Prop:=match c with|al t=>B (if t then a else b)|_=>False
theorem kA{t:Bool}{a b:D}:Zau (al t) a b B=B (if t=true then a else b):=rfl
theorem Zav{c a b:aH}:ad P T (.pick c a b) ty B F h=Zau (ev F c) (ev F a) (ev F b) B:=by
 show (∃u,Bn _ _ _ (OP u h) h/\ap B u)=_;unfold Bn Zau
 cases ev F c<;>first|exact qEq|simp
def qI(s:Option Bool)(n:Option Nat)(p:D)(B:D->Prop)(h:Hp):Prop:=
 match p with
 | J (G a)=>match s,n with
  | some false,_=>qR (hc h a) B
  | some true,G n=>qR ((rd h a n).map fun l=>aC (Y l)) B
  | _,_=>False
 | _=>False
theorem uC{n:Option Nat}:qI (G false) n (J (G a)) B h=qR (hc h a) B:=rfl
theorem kC:qI (G true) (G n) (J (G a)) B h=qR ((rd h a n).map fun l=>aC (Y l)) B:=rfl
theorem Zaw:ad P T (.load t x) ty B F h=qI (ta P t) (tn P t) (ev F x) B h:=by
 show (∃u,FX _ _ _ (OP u h) h/\ap B u)=_;unfold FX qI
 cases ev F x with
 | pointer a=>
  cases a with
  | none=>simp
  | some a=>
   simp only;rcases ta P t with _|b
   .simp
   .cases b
    .grind [IF,hc,OP,qR]
    .rcases tn P t with _|n
     .simp
     grind [OP,G8,rd,qR]
 | _=>simp
def kD(f:Option Nat)(p:D)(B:D->Prop):Prop:=match f,p with|some o,J (G a)=>B (J (G (a.add o)))|_,_=>False
theorem dQ{f:Nat}:kD (G o) (J (G ⟨b,f,U⟩)) B=B (J (G ⟨b,f+o,U⟩)):=by
 show B (J (G (Addr.add _ _)))=_;rw[X9]
theorem uD:ad P T (.fieldAddr t x i) ty B F h=kD (tf P t i) (ev F x) B:=by
 show (∃u,O1 _ _ (OP u h) h/\ap B u)=_;unfold O1 kD;rcases tf P t i with _|o
 .simp
 .cases ev F x with
  | pointer a=>cases a with
   | none=>simp
   | some a=>exact qEq
  | _=>simp
def qIx(arr:Option (Nat × O))(sl:Option O)(n:O->Option Nat)(p i:D)(B:D->Prop):Prop:=
 match i with
 | .int _ i=>(match arr,sl,p with
  | some (len,e),U,J (G a)=>(match n e with
   | some n=>if 0<=i/\i<(len:Int) then B (J (G (a.add (i.toNat*n)))) else False
   | none=>False)
  | none,G e,aa (G a) len _=>(match n e with
   | some n=>if 0<=i/\i<(len:Int) then B (J (G (a.add (i.toNat*n)))) else False
   | none=>False)
  | _,_,_=>False)
 | _=>False
def ZfD(m:Option Nat)(len:Nat)(a:Addr)(i:Int)(B:D->Prop):Prop:=
 match m with|some m=>if 0<=i/\i<(len:Int) then B (J (G (a.add (i.toNat*m)))) else False|none=>False
theorem ZfE{n:O->Option Nat}{i:Int}:qIx (G (len,e)) U n (J (G a)) (.int k i) B=ZfD (n e) len a i B:=rfl
theorem uE{n:O->Option Nat}{i:Int}:qIx U (G e) n (aa (G a) len cap) (.int k i) B=ZfD (n e) len a i B:=rfl
theorem uF{f:Nat}{i:Int}:ZfD (G m) len ⟨b,f,U⟩ i B=if 0<=i/\i<(len:Int) then B (J (G ⟨b,f+i.toNat*m,U⟩)) else False:=by
 simp only[ZfD,X9]
theorem Lj{c:Prop}[Decidable c]{A:D->Prop}:(∃u,(if c then A u else False)/\ap B u)=if c then (∃u,A u/\ap B u) else False:=by
 split<;>simp
theorem ZjN{i:aH}:ad P T (.indexAddr t x i) ty B F h=qIx (XJ P t) (Un P t) (tn P) (ev F x) (ev F i) B:=by
 show (∃u,vIx _ _ _ _ _ (OP u h) h/\ap B u)=_;unfold vIx qIx
 cases ev F i with
 | int k i=>
  simp only;rcases XJ P t with _|⟨len,e⟩
  .rcases Un P t with _|e
   .simp
   .cases ev F x with
    | slice a len cap=>
     cases a with
     | none=>simp
     | some a=>
      simp only;rcases tn P e with _|n
      .simp
      .simp only;rw[Lj,qEq]
    | _=>simp
  .rcases Un P t with _|c
   .cases ev F x with
    | pointer a=>
     cases a with
     | none=>simp
     | some a=>
      simp only;rcases tn P e with _|n
      .simp
      .simp only;rw[Lj,qEq]
    | _=>simp
   .simp
 | _=>simp
def Kh(v:D)(i:Nat)(B:D->Prop):Prop:=match v with|.tuple vs=>qR (vs[i]?) B|_=>False
theorem F8:Kh (.tuple (Y l)) i B=qR (nth l i) B:=by simp[Kh,X2]
theorem dR:ad P T (.extract x i) ty B F h=Kh (ev F x) i B:=by
 show (∃u,VD _ _ (OP u h) h/\ap B u)=_;unfold VD Kh
 grind [IF,OP,qR]
def ZjO(v:D)(B:D->Prop):Prop:=match v with|J (G a)=>B (J (G a))|.func (.func f) x y=>B (.func (.func f) x y)|_=>False
theorem af:ZjO (J (G a)) B=B (J (G a)):=rfl
theorem ZfF:ad P T (.nilCheck x) ty B F h=ZjO (ev F x) B:=by
 show (∃u,j6 _ (OP u h) h/\ap B u)=_;unfold j6 ZjO
 cases ev F x with
 | pointer a=>cases a with
  | none=>simp
  | some a=>exact qEq
 | func f a b=>cases f with
  | func f=>exact qEq
  | _=>simp
 | _=>simp
theorem ZfG{c:BinOp}{f:O}:ad P T (.binOp c t x y f) ty B F h = ∃u,Ji P c t x y (ev F x) (ev F y) (OP u h) h/\ap B u:=rfl
theorem ZjP{c:UnOp}:ad P T (.unOp c t x) ty B F h = ∃u,vUn P c (ev F x) (OP u h) h/\ap B u:=rfl
theorem Zax{s d:O}:ad P T (.convert s d x) ty B F h = ∃u,L9 P s d (ev F x) (OP u h) h/\ap B u:=rfl
theorem ZjQ{b:Builtin}{args:Array aH}{ts:Array O}:ad P T (.call ⟨.builtin b,args,ts⟩) ty B F h =
  ∃u,OV P T b ts ty (args.map fun|.const _=>true|_=>false) (uo F args.toList) (OP u h) h/\ap B u:=rfl
end
theorem ZjR{t:Nat}:ev F (.tmp t)=F t:=rfl
theorem Zay:ev F (.const v)=v:=rfl
theorem uG{g:Nat}:ev F (.global g)=J (G ⟨g,0,U⟩):=rfl
theorem ZfH{g:Nat}:ev F (.func g)=.func (.func g) #[] #[]:=rfl
theorem Zu{d:Nat}{t:Nat}:Y5 F (G d) v t=if t=d then v else F t:=rfl
theorem uH:Y5 F U v=F:=rfl
theorem ZfI{d:Nat}{t:Nat}:upd F d v t=if t=d then v else F t:=rfl
theorem kE{t:Bool}{a b:D}:Bn (al t) a b K h=K (if t=true then a else b) h:=rfl
theorem uI:Zad (G l) t K h=K (J (G ⟨h.size,0,U⟩)) (h.push (ae (Y l) t)):=rfl
theorem uJ:IF (G v) K h=K v h:=rfl
theorem uK:G8 (G l) K h=K (aC (Y l)) h:=rfl
theorem Bq{n:Option Nat}:FX (G false) n (J (G a)) K h=IF (hc h a) K h:=rfl
theorem F9:FX (G true) (G n) (J (G a)) K h=G8 (rd h a n) K h:=rfl
theorem Zaz:qB (G h') K=K undef h':=rfl
theorem kF{i:Int}:Tc (G n) (J (G a)) (.int k i) K h=if n=1 then qB (Uf h a (.int k i)) K else False:=rfl
theorem dS{b:Bool}:Tc (G n) (J (G a)) (al b) K h=if n=1 then qB (Uf h a (al b)) K else False:=rfl
theorem ag{p:Option Addr}{l c:Nat}:Tc (G n) (J (G a)) (aa p l c) K h=if n=1 then qB (Uf h a (aa p l c)) K else False:=rfl
theorem Cy{s:ByteArray}:Tc (G n) (J (G a)) (.string s) K h=if n=1 then qB (Uf h a (.string s)) K else False:=rfl
theorem Ea{p:Option Addr}:Tc (G n) (J (G a)) (.pointer p) K h=if n=1 then qB (Uf h a (.pointer p)) K else False:=rfl
theorem kG{p:Option Nat}:Tc (G n) (J (G a)) (.map p) K h=if n=1 then qB (Uf h a (.map p)) K else False:=rfl
theorem dU{f:Fn}{x y:Array D}:Tc (G n) (J (G a)) (.func f x y) K h=if n=1 then qB (Uf h a (.func f x y)) K else False:=rfl
theorem Eb:Tc (G n) (J (G a)) .nilFunc K h=if n=1 then qB (Uf h a .nilFunc) K else False:=rfl
theorem kH:Tc (G n) (J (G a)) (aC (Y l)) K h=if n=(M l) then qB (wr h a l) K else False:=rfl
theorem dV{f:Nat}:O1 (G o) (J (G ⟨b,f,U⟩)) K h=K (J (G ⟨b,f+o,U⟩)) h:=by
 grind [O1,X9]
def ZfJ(m:Option Nat)(len:Nat)(a:Addr)(i:Int)(K:D->Hp->Prop)(h:Hp):Prop:=
 match m with|some m=>if 0<=i/\i<(len:Int) then K (J (G (a.add (i.toNat*m)))) h else False|none=>False
theorem ZfK{n:O->Option Nat}{i:Int}:
  vIx (G (len,e)) U n (J (G a)) (.int k i) K h=ZfJ (n e) len a i K h:=rfl
theorem uL{n:O->Option Nat}{i:Int}:
  vIx U (G e) n (aa (G a) len cap) (.int k i) K h=ZfJ (n e) len a i K h:=rfl
theorem uM{f:Nat}{i:Int}:ZfJ (G m) len ⟨b,f,U⟩ i K h=if 0<=i/\i<(len:Int) then K (J (G ⟨b,f+i.toNat*m,U⟩)) h else False:=by
 simp only[ZfJ,X9]
theorem Ec:VD (.tuple (Y l)) i K h=IF (nth l i) K h:=by simp[VD,X2]
theorem ah:j6 (J (G a)) K h=K (J (G a)) h:=rfl
theorem uN{f:FuncId}{x y:Array D}:j6 (.func (.func f) x y) K h=K (.func (.func f) x y) h:=rfl
theorem kI{f:FuncId}(c:goes P f=true):FY P T (.func (.func f) #[] #[]) l K h=Zg P T f (Y l) h K:=by
 simp only[FY,c,↓reduceIte];simp
theorem ZaA{a b:Int}:Ji P .add t x y (.int k a) (.int k b) K h=K (.int k (k.wrap (a+b))) h:=by
 simp[Ji,binOp,Op.intArith,ZS,eqGuard]
theorem ZaB{a b:Int}:Ji P .sub t x y (.int k a) (.int k b) K h=K (.int k (k.wrap (a-b))) h:=by
 simp[Ji,binOp,Op.intArith,ZS,eqGuard]
theorem ZaC{a b:Int}:Ji P .mul t x y (.int k a) (.int k b) K h=K (.int k (k.wrap (a*b))) h:=by
 simp[Ji,binOp,Op.intArith,ZS,eqGuard]
theorem ZaD{a b:Int}:Ji P .quo t x y (.int k a) (.int k b) K h=if b=0 then False else K (.int k (k.wrap (a.tdiv b))) h:=by
 simp only[Ji,binOp,Op.intDiv,Zk,eqGuard];by_cases hb:b=0
 .subst hb;simp[runtimePanic,goPanic,Zk,hw,ZS,program]
 .simp[hb,ZS]
theorem ZaE{a b:Int}:Ji P .rem t x y (.int k a) (.int k b) K h=if b=0 then False else K (.int k (a.tmod b)) h:=by
 simp only[Ji,binOp,Op.intDiv,Zk,eqGuard];by_cases hb:b=0
 .subst hb;simp[runtimePanic,goPanic,Zk,hw,ZS,program]
 .simp[hb,ZS]
def Y1(c:BinOp)(k:IntKind)(a b:Int):Int:=
 let x:=BitVec.ofInt k.bits a
 let y:=BitVec.ofInt k.bits b
 k.wrap (match c with|.and=>x &&& y|.or=>x ||| y|.xor=>x ^^^ y|_=>x &&& ~~~y).toNat
theorem ZaF{a b:Int}:Ji P .and t x y (.int k a) (.int k b) K h=K (.int k (Y1 .and k a b)) h:=by
 simp[Ji,binOp,Op.intBits,ZS,eqGuard,Y1]
theorem ZfL{a b:Int}:Ji P .or t x y (.int k a) (.int k b) K h=K (.int k (Y1 .or k a b)) h:=by
 simp[Ji,binOp,Op.intBits,ZS,eqGuard,Y1]
theorem ZaG{a b:Int}:Ji P .xor t x y (.int k a) (.int k b) K h=K (.int k (Y1 .xor k a b)) h:=by
 simp[Ji,binOp,Op.intBits,ZS,eqGuard,Y1]
theorem dW{a b:Int}:Ji P .andNot t x y (.int k a) (.int k b) K h=K (.int k (Y1 .andNot k a b)) h:=by
 simp[Ji,binOp,Op.intBits,ZS,eqGuard,Y1]
def XV(k:IntKind)(a b:Int):Int:=k.wrap (a*2 ^ min b.toNat k.bits)
def Xn(k:IntKind)(a b:Int):Int:=a.fdiv (2 ^ min b.toNat k.bits)
theorem ZaH{k':IntKind}{a b:Int}:Ji P .shl t x y (.int k a) (.int k' b) K h=if b<0 then False else K (.int k (XV k a b)) h:=by
 simp only[Ji,binOp,Op.shift,Zk,eqGuard];by_cases hb:b<0
 .simp[hb,runtimePanic,goPanic,Zk,hw,ZS,program]
 .simp[hb,ZS,XV]
theorem ZaI{k':IntKind}{a b:Int}:Ji P .shr t x y (.int k a) (.int k' b) K h=if b<0 then False else K (.int k (Xn k a b)) h:=by
 simp only[Ji,binOp,Op.shift,Zk,eqGuard];by_cases hb:b<0
 .simp[hb,runtimePanic,goPanic,Zk,hw,ZS,program]
 .simp[hb,ZS,Xn]
theorem ZaJ{a b:Int}:Ji P .eql t x y (.int k a) (.int k b) K h=K (al (decide (a=b))) h:=by
 simp[Ji,binOp,Op.intCmp,ZS,eqGuard];rfl
theorem ZaK{a b:Int}:Ji P .neq t x y (.int k a) (.int k b) K h=K (al (decide (a≠b))) h:=by
 simp[Ji,binOp,Op.intCmp,ZS,eqGuard]
 grind
theorem ZaL{a b:Int}:Ji P .lss t x y (.int k a) (.int k b) K h=K (al (decide (a<b))) h:=by
 simp[Ji,binOp,Op.intCmp,ZS,eqGuard]
theorem ZaM{a b:Int}:Ji P .leq t x y (.int k a) (.int k b) K h=K (al (decide (a<=b))) h:=by
 simp[Ji,binOp,Op.intCmp,ZS,eqGuard]
theorem ZaN{a b:Int}:Ji P .gtr t x y (.int k a) (.int k b) K h=K (al (decide (b<a))) h:=by
 simp[Ji,binOp,Op.intCmp,ZS,eqGuard]
theorem ZaO{a b:Int}:Ji P .geq t x y (.int k a) (.int k b) K h=K (al (decide (b<=a))) h:=by
 simp[Ji,binOp,Op.intCmp,ZS,eqGuard]
theorem ZfM{b:Bool}:vUn P .not (al b) K h=K (al (!b)) h:=rfl
theorem ZfN{a:Int}:vUn P .neg (.int k a) K h=K (.int k (k.wrap (0-a))) h:=rfl
theorem ZfO{a:Int}:vUn P .xor (.int k a) K h=K (.int k (Y1 .xor k (if k.signed then -1 else k.max) a)) h:=rfl
def ZaP(d:Option IntKind)(a:Int)(K:D->Hp->Prop)(h:Hp):Prop:=match d with|some k=>K (.int k (k.wrap a)) h|none=>False
theorem dX{a:Int}:ZaP (G k) a K h=K (.int k (k.wrap a)) h:=rfl
theorem uO{s d:O}{j:IntKind}{a:Int}(c:(Cr P s).isSome=true)(f:(Cr P d).isSome=true):L9 P s d (.int j a) K h=ZaP (Cr P d) a K h:=by
 unfold Cr at f c;split at f
 .rename_i r g;split at c
  .rename_i q p;simp only[L9,convert,Zk,ZL g,ZL p];unfold Cr;rw[g];rfl
  .cases c
 .cases f
theorem uP{a b:ByteArray}:Ji P .eql t x y (.string a) (.string b) K h=K (al (a.toList == b.toList)) h:=by
 simp[Ji,binOp,Op.stringOp,ZS,eqGuard]
theorem uQ{a b:ByteArray}:Ji P .neq t x y (.string a) (.string b) K h=K (al (!(a.toList == b.toList))) h:=by
 simp[Ji,binOp,Op.stringOp,ZS,eqGuard]
theorem ai{cs:Array Bool}{p:Option Addr}{l c:Nat}(f:(Un P t).isSome=true):
  OV P T .len #[t] ty cs [aa p l c] K h=K (.int .i64 l) h:=by
 unfold Un at f;split at f
 .rename_i j g;simp[OV,builtin,b2,Zk,ZS,ZL g,JX,goInt]
 .cases f
theorem uR(h:VC P t=true):P.underlying t=G .string:=by
 unfold VC at h;grind
theorem Cz{cs:Array Bool}{s:ByteArray}(c:VC P t=true):
  OV P T .len #[t] ty cs [.string s] K h=K (.int .i64 s.size) h:=by
 simp[OV,builtin,b2,Zk,ZS,ZL (uR c),JX,goInt]
theorem ZfP{ts:Array O}{cs:Array Bool}{k':IntKind}{a b:Int}:OV P T .min ts ty cs [.int k a,.int k' b] K h=K (.int k (if b<a then b else a)) h:=by
 simp[OV,builtin,Builtin.min_,Builtin.min2,ZS,JX]
theorem ZfQ{ts:Array O}{cs:Array Bool}{k':IntKind}{a b:Int}:OV P T .max ts ty cs [.int k a,.int k' b] K h=K (.int k (if b>a then b else a)) h:=by
 simp[OV,builtin,Builtin.max_,Builtin.max2,ZS,JX]
end
section
variable {P:ak} {T:am} {K:D->Hp->Prop} {F:Env} {h:Hp} {ty:O} {B:D->Prop}
def ZaQ(p:Option (Nat × Nat))(place:Nat->Option (Nat × Nat))(cs:List D)(v:D)(l:List (Nat × D)):Option (List D):=
 match p with
 | some (o,s)=>if (cl v).length=s/\o+s<=(M cs) then VE place (XB cs o (cl v)) l else U
 | none=>U
theorem uS:VE place cs []=G cs:=rfl
theorem kJ{l:List (Nat × D)}:VE place cs ((i,v) :: l)=ZaQ (place i) place cs v l:=rfl
theorem dY{s:Nat}{l:List (Nat × D)}:
  ZaQ (G (o,s)) place cs v l=if (cl v).length=s/\o+s<=(M cs) then VE place (XB cs o (cl v)) l else U:=rfl
theorem uT:Kd n i=G (i*n,n):=rfl
theorem CA{z:List D}{c:List (Nat × Nat)}{n:O->Option Nat}:Lg (G z) (G c) U n parts K h=G8 (VE (nth c) z parts) K h:=rfl
theorem kL{z:List D}{e:Nat}{n:O->Option Nat}:Lg (G z) U (G (m,e)) n parts K h=Fs (n e) z parts K h:=rfl
theorem aj{z:List D}:Fs (G n) z parts K h=G8 (VE (Kd n) z parts) K h:=rfl
theorem kM:qC e len (G l) K h=K (aa (G ⟨h.size,0,U⟩) len len) (h.push (ae (Y l) e)):=rfl
theorem Ed{z:List D}:Me e (G n) (G z) len parts K h=if (M z)=n/\len*n<=16777216 then qC e len (Fu n len z parts) K h else False:=rfl
theorem CD{n:O->Option Nat}{z:O->Option (List D)}:Ke (G e) n z len parts K h=Me e (n e) (z e) len parts K h:=rfl
theorem kO:HI (G true) (G n) cs o K h=K (aC ((cs.drop o).take n).toArray) h:=rfl
theorem dZ{n:Option Nat}:HI (G false) n cs o K h=IF (nth cs o) K h:=rfl
theorem uU{t:Nat}{a:O->Option Bool}{n:O->Option Nat}:Zae (G (o,t)) a n (aC (Y cs)) K h=HI (a t) (n t) cs o K h:=rfl
theorem ZaR{e:Nat}{a:O->Option Bool}{n:O->Option Nat}{i:Int}:ur (G (len,e)) false a n (aC (Y cs)) (.int k i) K h=qD (n e) (a e) len cs i K h:=rfl
theorem kQ{a:Option Bool}{i:Int}:qD (G m) a len cs i K h=if 0<=i/\i<(len:Int) then HI a (G m) cs (i.toNat*m) K h else False:=rfl
theorem ZaS{a:O->Option Bool}{n:O->Option Nat}{s:ByteArray}{i:Int}:ur U true a n (.string s) (.int k i) K h=if 0<=i/\i<(s.size:Int) then K (.int .u8 ((s.data.toList.getD i.toNat 0).toNat:Nat)) h else False:=rfl
theorem ZfR{d y:Nat}:sb U d y=G d:=rfl
theorem ZjS{i:Int}{d y:Nat}:sb (G (.int k i)) d y=if 0<=i/\i<=(y:Int) then G i.toNat else U:=rfl
def MQ(a:Option Addr)(n cap b:Nat)(l:Option Nat)(K:D->Hp->Prop)(h:Hp):Prop:=
 match l with|some l=>K (aa (if cap=l then a else a.map (·.add (l*n))) (b-l) (cap-l)) h|none=>False
def ZaT(n:Nat)(a:Option Addr)(cap:Nat)(lo:Option D)(b:Option Nat)(K:D->Hp->Prop)(h:Hp):Prop:=
 match b with|some b=>MQ a n cap b (sb lo 0 b) K h|none=>False
theorem kR{a:Option Addr}{hi:Option D}:OG (G n) a len cap lo hi K h=ZaT n a cap lo (sb hi len cap) K h:=by
 unfold OG ZaT MQ
 grind
theorem kS{a:Option Addr}:ZaT n a cap lo (G b) K h=MQ a n cap b (sb lo 0 b) K h:=rfl
theorem kT{l k:Nat}:MQ (G ⟨k,o,U⟩) n cap b (G l) K h=K (aa (if cap=l then G ⟨k,o,U⟩ else G ⟨k,o+l*n,U⟩) (b-l) (cap-l)) h:=by
 simp only[MQ,aF,X9]
theorem kU{l:Nat}:MQ U n cap b (G l) K h=K (aa U (b-l) (cap-l)) h:=by
 simp[MQ]
theorem kV{e:Nat}{str:Bool}{n:O->Option Nat}{a:Option Addr}{hi:Option D}:Cu U (G e) str n (aa a len cap) lo hi U K h=OG (n e) a len cap lo hi K h:=rfl
def ZaU(n:Option Nat)(a:Option Addr)(len:Nat)(lo:Option D)(c:D)(m:Option Nat)(K:D->Hp->Prop)(h:Hp):Prop:=match m with|some m=>OG n a len m lo (G c) K h|none=>False
theorem kW{n:Option Nat}{a:Option Addr}{c:D}:ZaU n a len lo c (G m) K h=OG n a len m lo (G c) K h:=rfl
theorem ZaV{e:Nat}{str:Bool}{n:O->Option Nat}{a:Option Addr}{f c:D}:Cu U (G e) str n (aa a len cap) lo (G f) (G c) K h=ZaU (n e) a len lo f (sb (G c) 0 cap) K h:=by
 simp only[Cu,ZaU]
 grind
theorem ZaW{e:Nat}{str:Bool}{n:O->Option Nat}{hi:Option D}:Cu (G (len,e)) U str n (J (G a)) lo hi U K h=OG (n e) (G a) len len lo hi K h:=rfl
def ZnG(s:ByteArray)(lo:Option D)(b:Option Nat)(K:D->Hp->Prop)(h:Hp):Prop:=
 match b with
 | some b=>(match sb lo 0 b with|some l=>K (.string (s.extract l b)) h|none=>False)
 | none=>False
theorem ZaX{n:O->Option Nat}{s:ByteArray}{hi:Option D}:Cu U U true n (.string s) lo hi U K h=ZnG s lo (sb hi s.size s.size) K h:=rfl
theorem ZaY{e:Nat}{n f:O->Option Nat}{z:O->Option (List D)}{k':IntKind}{l c:Int}:vMk (G e) n f z (.int k l) (.int k' c) K h=Zfr e (n e) (f e) (z e) l c K h:=rfl
theorem uV{e f:Nat}{z:List D}{l c:Int}:Zfr e (G n) (G f) (G z) l c K h =
  if (M z)=n/\0<=l/\l<=c/\c<=9223372036854775807/\(f:Int)*c<=281474976710656 then K (aa (G ⟨h.size,0,U⟩) l.toNat c.toNat) (h.push (ae (Ug c.toNat z).toArray e)) else False:=rfl
theorem ZfS:ad P T (.field t x i) ty B F h = ∃u,Zae (tfl P t i) (ta P) (tn P) (ev F x) (OP u h) h/\ap B u:=rfl
theorem ZfT{i:aH}:ad P T (.index t x i) ty B F h = ∃u,ur (XJ P t) (VC P t) (ta P) (tn P) (ev F x) (ev F i) (OP u h) h/\ap B u:=rfl
theorem ZfU{lo hi c:Option aH}:ad P T (.slice t x lo hi c) ty B F h = ∃u,Cu (XJ P t) (Un P t) (VC P t) (tn P) (ev F x) (qE F lo) (qE F hi) (qE F c) (OP u h) h/\ap B u:=rfl
theorem uW{parts:Array (Nat × aH)}:ad P T (.build t parts) ty B F h = ∃u,Lg (tz P t) (ME P t) (XJ P t) (tn P) (j7 F parts.toList) (OP u h) h/\ap B u:=rfl
theorem ZjT:cl (aC (Y l))=l:=rfl
theorem SI:hc (h.push (ae (Y l) t)) ⟨b,o,U⟩=if b=h.size then nth l o else hc h ⟨b,o,U⟩:=by
 grind [hc,X2]
theorem qJ:rd (h.push (ae (Y l) t)) ⟨b,o,U⟩ n=if b=h.size then (if o+n<=(M l) then G ((l.drop o).take n) else U) else rd h ⟨b,o,U⟩ n:=by
 grind [rd]
def d7(x:Option Hp)(o:Obj):Option Hp:=match x with|some h=>G (h.push o)|none=>U
theorem kX{o:Obj}:d7 (G h) o=G (h.push o):=rfl
theorem set_push{o c:Obj}(hb:b<h.size):(h.push o).setIfInBounds b c=(Z h b c).push o:=by
 grind
theorem SJ{o c:Obj}:(h.push o).setIfInBounds h.size c=h.push c:=by
 grind
theorem ZaZ:Uf (h.push (ae (Y l) t)) ⟨b,o,U⟩ v=if b=h.size then (if o<(M l)/\YV v=true then G (h.push (ae (l.set o v).toArray t)) else U) else d7 (Uf h ⟨b,o,U⟩ v) (ae (Y l) t):=by
 unfold Uf;simp only[bw];by_cases hb:b=h.size
 .grind [SJ]
 .simp only[if_neg hb]
  cases g:h[b]? with
  | none=>rfl
  | some f=>
   have p:=(aI.1 g).1
   cases f with
   | cells c e j=>
    grind [d7,set_push]
   | _=>rfl
theorem ZfV{vs:List D}:wr (h.push (ae (Y l) t)) ⟨b,o,U⟩ vs=if b=h.size then (if o+(M vs)<=(M l)/\vs.all YV=true then G (h.push (ae (XB l o vs).toArray t)) else U) else d7 (wr h ⟨b,o,U⟩ vs) (ae (Y l) t):=by
 unfold wr;simp only[bw];by_cases hb:b=h.size
 .grind [SJ]
 .simp only[if_neg hb]
  cases g:h[b]? with
  | none=>rfl
  | some f=>
   have p:=(aI.1 g).1
   cases f with
   | cells c e j=>
    grind [d7,set_push]
   | _=>rfl
end
def YU(h:Hp)(b o:Nat)(cs:List D):Prop:=∀i (hi:i<(M cs)),hc h ⟨b,o+i,U⟩=G cs[i]
def Sl(n:Nat)(h:Hp)(v:D)(m:Nat)(cs:List D):Prop:=
 ∃p cap,v=aa p m cap/\(M cs)=m*n/\(cs≠[]->∃b o,p=G ⟨b,o,U⟩/\YU h b o cs)
def QU(B:Nat)(E:O)(n:Nat)(h:Hp)(v:D)(m:Nat)(cs:List D):Prop:=
 ((∃p,v=aa p 0 0)/\m=0/\cs=[]) \/
 ∃b cap ZT,B<=b/\v=aa (G ⟨b,0,U⟩) m cap/\h[b]? = G (ae (cs++ZT).toArray E (0,0))/\(M cs)=m*n/\(M ZT)=(cap-m)*n/\m<=cap
structure Zm(B:Nat)(h h':Hp):Prop where
 size:h.size<=h'.size
 block:∀b,b<B->h'[b]? = h[b]?
theorem Zm.refl(B:Nat)(h:Hp):Zm B h h:=⟨bT _,fun _ _=>rfl⟩
theorem Zm.trans{f:Hp}(a:Zm B h h')(b:Zm B h' f):Zm B h f:=
 ⟨Nat.le_trans a.size b.size,fun k c=>(b.block k c).trans (a.block k c)⟩
theorem Zm.mono{B':Nat}(a:Zm B h h')(f:B'<=B):Zm B' h h':=⟨a.size,fun k c=>a.block k (Nat.lt_of_lt_of_le c f)⟩
theorem Zm.push(f:B<=h.size)(o:Obj):Zm B h (h.push o):=
 ⟨zX,fun k c=>by grind⟩
theorem Zm.set(hb:B<=b)(o:Obj):Zm B h (Z h b o):=
 ⟨zX,fun k c=>by grind⟩
theorem Zm.hc(a:Zm B h h'){p:Addr}(c:p.block<B):hc h' p=hc h p:=by unfold V.hc;rw[a.block _ c]
theorem Zb{o:Obj}(hb:h[b]? = G o):b<h.size:=(aI.1 hb).1
theorem O9{p:Addr}(c:hc h p=G v):p.block<h.size:=by
 unfold hc at c
 grind
theorem Br{c:Array D}{f:Nat × Nat}(hb:h[b]? = G (ae c e f))(o:Nat):hc h ⟨b,o,U⟩=c[o]?:=by
 unfold hc;grind
theorem Zm.YU(a:Zm B h h')(hb:b<B)(c:YU h b o cs):YU h' b o cs:=
 fun i hi=>by rw[a.hc (by exact hb)];exact c i hi
theorem Sl.YQ(s:Sl n h v m cs)(a:Zm h.size h h'):Sl n h' v m cs:=by
 let⟨p,cap,g,q,hc⟩:=s;refine⟨p,cap,g,q,fun c=>?_⟩;let⟨b,o,j,f⟩:=hc c;refine⟨b,o,j,a.YU ?_ f⟩;have r:0<(M cs):=a9.2 c;exact O9 (f 0 r)
theorem QU.sl(s:QU B E n h v m cs):Sl n h v m cs:=by
 rcases s with⟨⟨p,rfl⟩,rfl,rfl⟩|⟨b,cap,ZT,f,rfl,hb,c,_,_⟩
 .exact⟨p,0,rfl,zX,fun h=>(h rfl).elim⟩
 .refine⟨_,cap,rfl,c,fun _=>⟨b,0,rfl,fun i hi=>?_⟩⟩
  grind [hc]
theorem QU.nil(B:Nat)(E:O)(n:Nat)(h:Hp):QU B E n h (aa U 0 0) 0 []:=.inl ⟨⟨U,rfl⟩,rfl,rfl⟩
theorem QU.CE(B:Nat)(E:O)(n:Nat)(h:Hp)(p:Option Addr):QU B E n h (aa p 0 0) 0 []:=.inl ⟨⟨p,rfl⟩,rfl,rfl⟩
def Yq:D->Option Nat
 | aa (G a) _ cap=>if cap=0 then U else G a.block
 | _=>U
structure SK(x:Option Nat)(h h':Hp):Prop where
 size:h.size<=h'.size
 block:∀b,b<h.size->x≠G b->h'[b]? = h[b]?
theorem SK.YQ{x:Option Nat}(a:SK x h h')(g:B<=h.size)(c:∀b,x=G b->B<=b):Zm B h h':=
 ⟨a.size,fun k f=>a.block k uh (fun e=>by grind)⟩
theorem QU.Yb(s:QU B E n h v m cs):∀b,Yq v=G b->B<=b:=by
 intro b hb;rcases s with⟨⟨p,rfl⟩,_,_⟩|⟨f,cap,ZT,c,rfl,_⟩
 .cases p<;>simp[Yq]at hb
 grind [Yq]
theorem QU.kY(s:QU B E n h v m cs){x:Option Nat}(a:SK x h h')(c:∀b,Yq v=G b->x≠G b):QU B E n h' v m cs:=by
 grind [QU,Yq,aW,SK.block]
theorem SK.push(o:Obj){x:Option Nat}:SK x h (h.push o):=⟨zX,fun k c _=>by grind⟩
theorem SK.refl{x:Option Nat}:SK x h h:=⟨bT _,fun _ _ _=>rfl⟩
theorem QU.push(s:QU B E n h v m cs)(o:Obj):QU B E n (h.push o) v m cs:=
 s.kY (x:=U) (SK.push o) (fun _ _=>by simp)
theorem QU.YQ{C:Nat}(s:QU B E n h v m cs)(a:Zm C h h')(hC:h.size<=C):QU B E n h' v m cs:=
 s.kY (x:=U) ⟨a.size,fun b hb _=>a.block b uh⟩ (fun _ _=>by simp)
theorem QU.mono{B':Nat}(s:QU B E n h v m cs)(c:B'<=B):QU B' E n h v m cs:=by
 grind [QU]
section
variable {P:ak} {T:am} {K:D->Hp->Prop} {F:Env} {h:Hp} {ty:O}
theorem YW(s:Sl n h v m cs){Q:Array D->Hp->Prop}(H:Q (Y cs) h):hw P (Builtin.firstCells n m v) Q h:=by
 obtain⟨p,cap,rfl,c,hc⟩:=s
 cases p with
 | none=>
  have:cs=[]:=by
   cases cs with
   | nil=>rfl
   | cons x l=>grind
  subst this;exact H
 | some a=>
  show hw P (loadCells a (m*n)) Q h;rw[<-c];refine run_loadCells a cs _ 0 #[] (fun j g=>?_) rfl (by simpa using H);let⟨b,o,f,q⟩:=hc zK
  grind [YU,X9]
theorem Sl.lenOf(s:Sl n h v m cs){Q:Nat->Hp->Prop}:hw P (Builtin.lenOf v) Q h=Q m h:=by
 obtain⟨p,cap,rfl,_,_⟩:=s;rfl
theorem TV(l r vs:List D):XB (l++r) (M l) vs=l++XB r 0 vs:=by
 induction l with
 | nil=>simp
 | cons x l c=>
  cases vs with
  | nil=>simp[XB]
  | cons v vs=>grind [XB.eq_4]
theorem Wn(r vs:List D)(h:(M vs)<=(M r)):XB r 0 vs=vs++r.drop (M vs):=by
 induction vs generalizing r with
 | nil=>simp[XB]
 | cons v vs c=>
  cases r with
  | nil=>simp at h
  | cons x r=>grind [XB]
theorem XW(z:Array D)(n:Nat):(bf z n).size=n*z.size:=by simp[bf]
theorem TW(f cap bytes:Nat)(p:cap<f)(hb:f*bytes<=140737488355328):aS f cap*bytes<=281474976710656:=by
 have g1:∀(r c:Nat),f<=c->a2 f r c=c:=by
  intro r c hc
  cases r with
  | zero=>rfl
  | succ r=>simp[a2,hc]
 have j:∀(r c:Nat),c<f->a2 f r c<=f+(f+768)/4:=by
  intro r
  induction r with
  | zero=>intro c hc;simp only[a2];omega
  | succ r q=>
   intro c hc;simp only[a2]
   grind
 have key:aS f cap<=2*f+192:=by
  unfold aS;split
  .omega
  .grind
 have A:aS f cap*bytes<=(2*f+192)*bytes:=aV _ key;unfold aS;split
 .omega
 .rename_i z;split
  .have:2*cap*bytes<=2*f*bytes:=aV _ uh
   grind
  .rename_i w;have g:=j 4 cap p;have u:a2 f 4 cap*bytes<=(f+(f+768)/4)*bytes:=aV _ g;have s:(f+(f+768)/4)*bytes<=(2*f)*bytes:=aV _ uh
   grind
theorem Ee{C A E E' k bytes:Nat}{s:D}{news zs:List D}{cb:Array Bool}(w:Un P C=G E)(an:P.underlying A=G (.slice E'))(hn:tn P E=G n)(hz:tz P E=G zs)(kZ:(M zs)=n)(Mg:tb P E=G bytes)(Zn:QU B E n h v m cs)(hB:B<=h.size)(src:Sl n h s k news)(JD:news.all YV=true)(Xq:(m+k)*bytes<=140737488355328)(Ck:1<=bytes)(H:∀v' h',QU B E n h' v' (m+k) (cs++news)->SK (Yq v) h h'->K v' h'):OV P T .append #[C,A] ty cb [v,s] K h:=by
 unfold Un at w;split at w
 .rename_i u hu;simp only[Option.some.injEq]at w;subst w;show hw P (do pure (.value (<-bo #[C,A] ty #[v,s]))) (JX P T K) h;rw[Zk];show hw P (bo #[C,A] ty #[v,s]) K h;obtain⟨r,I⟩:∃i,P.info? u=G i:=by
   unfold tn at hn
   cases hi:P.info? u with
   | none=>grind
   | some i=>grind
  have HJ:r.bytes=bytes:=by unfold tb at Mg;rw[I]at Mg;simpa using Mg
  obtain⟨L,Bt,lj⟩:∃z,r.zero=G z/\z.cells.toList=zs:=by
   unfold tz at hz;rw[I]at hz
   cases b4:r.zero with
   | none=>grind
   | some z=>grind
  have V:∃base cap,v=aa base m cap:=by
   rcases Zn with⟨⟨p,rfl⟩,rfl,_⟩|⟨b,cap,sp,_,rfl,_⟩
   .grind
   .grind
  let⟨base,cap,hv⟩:=V;subst hv;have uX:∀{Q:D->Hp->Prop} (g:Hp),hw P (zeroValue u) Q g=Q L g:=fun {Q} g=>by
   unfold zeroValue;rw[Zk,Jp I];simp only[Bt];rfl
  simp only[bo,bq,bl,bn,Zk,ZS,ZL hu,ZL an,run_sizeOf hn,aX,if_false,src.lenOf,Bool.not_false,if_true];by_cases WE:m+k<=cap
  .rw[if_pos WE,Zk];refine YW src ?_;have dj:(M news)=k*n:=by let⟨_,_,_,f,_⟩:=src;exact f
   by_cases XU:news=[]
   .subst XU;have b5:hw P (match base with|some a=>(do storeCells (a.add (m*n)) [];pure (Value.slice base (m+k) cap))|none=>pure (Value.slice base (m+k) cap)) K h=K (aa base (m+k) cap) h:=by
     cases base<;>rfl
    have hK:K (aa base (m+k) cap) h:=by
     refine H _ _ ?_ SK.refl;rcases Zn with⟨⟨p,j⟩,h2,h3⟩|⟨b,Ef,ZT,ao,j,hb,f,Bu,zE⟩
     .grind [QU]
     .grind [QU,Nat.sub_mul]
    cases base<;>exact hK
   rcases Zn with⟨⟨p,j⟩,h2,h3⟩|⟨b,Ef,ZT,ao,j,hb,f,Bu,zE⟩
   .simp only[Value.slice.injEq]at j;obtain⟨rfl,rfl,rfl⟩:=j;have hk:k=0:=uh;subst hk;exact (XU (aW zK)).elim
   .simp only[Value.slice.injEq]at j;obtain⟨rfl,_,rfl⟩:=j;simp only[Zk,X9];have aq:(M news)<=(M ZT):=by rw[dj,Bu];exact aV _ uh
    refine Xf (e:=u) (lo:=0) (hi:=0) rfl (bT _) news 0 h (cs++ZT).toArray hb ?_ JD ?_
    .grind
    .simp only[ZS,Nat.zero_add,Nat.add_zero];refine H _ _ (.inr ⟨b,cap,ZT.drop (M news),ao,rfl,?_,?_,?_,WE⟩) ⟨zX,fun b' QW hx=>?_⟩
     .grind [TV,Wn]
     .grind
     .grind [Nat.sub_mul]
     .rw[a1,if_neg];intro e;subst e;have W:cap≠0:=by
       intro h0;subst h0;have:k=0:=uh;subst this;exact XU (aW zK)
      exact hx (by simp[Yq,W])
  .rw[if_neg WE];have WF:¬aS (m+k) cap*r.bytes>2 ^ 48:=by
    rw[HJ];have:=TW (m+k) cap bytes uh Xq;omega
   have lq:¬r.bytes=0:=by rw[HJ];omega
   simp only[Zk,Jp I,lq,or_false,and_false,if_false,if_neg WF];intro t;let⟨c,hc⟩:=ZO (Question.cut (Question.appendCap (m+k) cap u) t);have b3:m+k<=c:=by rw[hc];simp only[Question.cut];omega
   rw[<-hc];have Li:∀{Q:Unit->Hp->Prop} (b:Nat) (g:Hp),Q () g->hw P (askRoom b) Q g:=fun {Q} b g q=>by
    unfold askRoom;split<;>exact q
   refine Li _ _ (YW Zn.sl (YW src ?_));rw[uX];have S:L.cells.size=n:=by rw[<-kZ,<-lj];simp
   refine H (aa (G ⟨h.size,0,U⟩) (m+k) c) _ (.inr ⟨h.size,c,(bf L.cells (c-(m+k))).toList,hB,rfl,?_,?_,?_,b3⟩) (SK.push _)
   .rw[Array.getElem?_push_size];simp
   .have dj:(M news)=k*n:=by let⟨_,_,_,f,_⟩:=src;exact f
    have Ri:(M cs)=m*n:=by let⟨_,_,_,f,_⟩:=Zn.sl;exact f
    grind
   .rw[Array.length_toList,XW,S]
 .cases w
def bv(x:Nat):D:=.int .u8 x
structure Bs(h:Hp)(v:D)(l:List Nat):Prop where
 sl:Sl 1 h v (M l) (l.map bv)
 byte:∀x∈l,x<256
structure YL(B:Nat)(E:O)(h:Hp)(v:D)(l:List Nat):Prop where
 Zn:QU B E 1 h v (M l) (l.map bv)
 byte:∀x∈l,x<256
theorem YL.bs{l:List Nat}(s:YL B E h v l):Bs h v l:=⟨s.Zn.sl,s.byte⟩
theorem Bs.YQ{l:List Nat}(s:Bs h v l)(a:Zm h.size h h'):Bs h' v l:=⟨s.sl.YQ a,s.byte⟩
theorem YL.YQ{C:Nat}{l:List Nat}(s:YL B E h v l)(a:Zm C h h')(hC:h.size<=C):YL B E h' v l:=⟨s.Zn.YQ a hC,s.byte⟩
theorem YL.mono{B':Nat}{l:List Nat}(s:YL B E h v l)(c:B'<=B):YL B' E h v l:=⟨s.Zn.mono c,s.byte⟩
theorem YL.push{l:List Nat}(s:YL B E h v l)(o:Obj):YL B E (h.push o) v l:=⟨s.Zn.push o,s.byte⟩
theorem YL.nil(B:Nat)(E:O)(h:Hp):YL B E h (aa U 0 0) []:=⟨QU.nil B E 1 h,fun _ h=>by cases h⟩
theorem Oe(l:List Nat):(l.map bv).all YV=true:=by simp[bv,YV]
theorem Bs.open{l:List Nat}(s:Bs h v l):∃p cap,v=aa p (M l) cap/\(l≠[]->∃b o,p=G ⟨b,o,U⟩/\b<h.size/\∀i (hi:i<(M l)),hc h ⟨b,o+i,U⟩=G (.int .u8 (l[i]:Nat))):=by
 let⟨⟨p,cap,c,_,hc⟩,_⟩:=s
 grind [hc,YU,bv,a9]
end
attribute [go_sem] Zfw ZjK Zfx ZjL Zfy Zap uB Zfz ZfA Zam Zan uA Zao ku Zal ki ko dM Zak
 Sy ZjR Zay uG ZfH uo Zu uH ZfI G6 Vg kE uI cl uJ uK Bq F9 Zaz kF dS ag Cy
 Ea kG dU Eb kH dV ZfK uL uM Ec ah uN kI
 ZaA ZaB ZaC ZaD ZaE ZaF ZfL ZaG dW ZaH ZaI ZaJ ZaK ZaL ZaM ZaN ZaO ZfM ZfN ZfO uO dX
 uP uQ ai Cz ZfP ZfQ Zas kv kw dO ZjM ZfB qEq Zat ky Zav kA Zaw uC kC uD dQ ZjN ZfE uE uF dR F8 ZfF af ZfG ZjP Zax ZjQ Lj
 Cq Um Lf aF aw Option.isSome_some decide_eq_true_eq decide_eq_false_iff_not
attribute [go_sem] uS kJ dY uT CA kL aj kM Ed CD kO dZ uU ZaR kQ ZaS ZfR ZjS kR kS kT kU kV ZaV kW ZaW ZaX
 ZaY uV ZfS ZfT ZfU uW ZjT SI qJ kX ZaZ ZfV j7 qE nth XB j8 Fu YV List.toList_toArray bR List.length_nil List.drop_succ_cons List.drop_zero List.take_succ_cons List.take_zero bA bE
 a6 List.all_nil Bool.and_true Array.size_push Nat.zero_add List.take_nil List.drop_nil
def vi:D->Int|.int _ n=>n|_=>0
theorem Xg(l:List α)(i:Nat)(hi:i<(M l)):l.take (i+1)=l.take i++[l[i]]:=List.take_succ_eq_append_getElem hi
def w64(n:Int):Int:=IntKind.i64.wrap n
theorem lu(n:Int):IntKind.i64.wrap n=if -9223372036854775808<=n/\n<=9223372036854775807 then n else w64 n:=by
 split
 .rename_i h;exact bt n h
 .rfl
theorem d8(n:Int):IntKind.u8.wrap n=n%256:=by simp[IntKind.wrap,IntKind.bits,IntKind.signed]
theorem Ki(n:Int):IntKind.u32.wrap n=n%4294967296:=by simp[IntKind.wrap,IntKind.bits,IntKind.signed]
theorem Kj(n:Int):IntKind.u64.wrap n=n%18446744073709551616:=by simp[IntKind.wrap,IntKind.bits,IntKind.signed]
attribute [go_sem] lu d8 Ki Kj true_and and_true ne_eq not_true_eq_false not_false_eq_true decide_true decide_false Bool.false_eq_true Int.toNat_natCast Nat.mul_one
theorem RX(k:IntKind)(n:Nat)(h:n<2 ^ (if k.signed then k.bits-1 else k.bits)):k.wrap (n:Int)=n:=by
 cases k<;>simp[IntKind.wrap,IntKind.bits,IntKind.signed]at h ⊢<;>omega
theorem Mh(k:IntKind)(a b:Nat)(c:a<2 ^ (if k.signed then k.bits-1 else k.bits))(hb:b<2 ^ (if k.signed then k.bits-1 else k.bits)):Y1 .and k a b=((a &&& b:Nat):Int):=by
 have hle:2 ^ (if k.signed then k.bits-1 else k.bits)<=2 ^ k.bits:=a7 uh (by split<;>omega)
 grind [Y1,RX,Nat.and_le_left]
theorem Kk(k:IntKind)(a b:Nat)(c:a<2 ^ (if k.signed then k.bits-1 else k.bits))(hb:b<2 ^ (if k.signed then k.bits-1 else k.bits)):Y1 .or k a b=((a ||| b:Nat):Int):=by
 have hle:2 ^ (if k.signed then k.bits-1 else k.bits)<=2 ^ k.bits:=a7 uh (by split<;>omega)
 grind [Y1,RX,Nat.or_lt_two_pow]
theorem Bv(k:IntKind)(a b:Nat)(c:a<2 ^ (if k.signed then k.bits-1 else k.bits))(hb:b<2 ^ (if k.signed then k.bits-1 else k.bits)):Y1 .xor k a b=((a ^^^ b:Nat):Int):=by
 have hle:2 ^ (if k.signed then k.bits-1 else k.bits)<=2 ^ k.bits:=a7 uh (by split<;>omega)
 grind [Y1,RX,Nat.xor_lt_two_pow]
theorem Za2(a b:Nat)(c:a<256)(hb:b<256):Y1 .and .u8 a b=((a &&& b:Nat):Int):=Mh .u8 a b c hb
theorem ZnI(a b:Nat)(c:a<256)(hb:b<256):Y1 .or .u8 a b=((a ||| b:Nat):Int):=Kk .u8 a b c hb
theorem ar(a b:Nat)(c:a<256)(hb:b<256):Y1 .xor .u8 a b=((a ^^^ b:Nat):Int):=Bv .u8 a b c hb
theorem Kl(a b:Nat)(c:a<4294967296)(hb:b<4294967296):Y1 .and .u32 a b=((a &&& b:Nat):Int):=Mh .u32 a b c hb
theorem Na(a b:Nat)(c:a<4294967296)(hb:b<4294967296):Y1 .or .u32 a b=((a ||| b:Nat):Int):=Kk .u32 a b c hb
theorem UL(a b:Nat)(c:a<4294967296)(hb:b<4294967296):Y1 .xor .u32 a b=((a ^^^ b:Nat):Int):=Bv .u32 a b c hb
theorem ZfW(a b:Nat)(c:a<18446744073709551616)(hb:b<18446744073709551616):Y1 .and .u64 a b=((a &&& b:Nat):Int):=Mh .u64 a b c hb
theorem lw(a b:Nat)(c:a<18446744073709551616)(hb:b<18446744073709551616):Y1 .or .u64 a b=((a ||| b:Nat):Int):=Kk .u64 a b c hb
theorem ZfX(a b:Nat)(c:a<9223372036854775808)(hb:b<9223372036854775808):Y1 .and .i64 a b=((a &&& b:Nat):Int):=Mh .i64 a b c hb
theorem Lk(a b:Nat)(c:a<9223372036854775808)(hb:b<9223372036854775808):Y1 .or .i64 a b=((a ||| b:Nat):Int):=Kk .i64 a b c hb
theorem Mi(k:IntKind)(a n:Nat)(c:n<=k.bits):Xn k a n=((a >>> n:Nat):Int):=by
 grind [Xn,Nat.shiftRight_eq_div_pow]
theorem au(k:IntKind)(a n:Nat)(c:n<=k.bits):XV k a n=k.wrap ((a*2 ^ n:Nat):Int):=by
 grind [XV]
theorem av(a b:Nat):a ^^^ b=0↔a=b:=by
 constructor
 .intro h;have c:a ^^^ b ^^^ b=0 ^^^ b:=by rw[h]
  grind
 grind
open Go.ChangeShapes Go.WideShapes Go.ChangeAt Go.RowKit
def fit(P:ak)(h:Hp):Nat->O->List D->Prop
 | 0,_,_=>False
 | k+1,t,cs=>
  match P.underlying t with
  | some .bool=>∃b,cs=[al b]
  | some (.int i)=>∃n,cs=[.int i n]/\(Lit.int i n).wf=true
  | some .string=>∃s,cs=[.string s]/\s.size<=reachBytes
  | some (.slice e)=>∃p len cap,cs=[aa p len cap]/\len<=cap/\cap*P.bytesOf e<=reachBytes /\
    (len≠0->P.cellsOf e≠0->∃b o,p=G ⟨b,o,U⟩/\b<h.size/\∀i,i<len->∃c,(M c)=P.cellsOf e/\YU h b (o+i*P.cellsOf e) c/\fit P h k e c)
  | some (.struct fs)=>(M cs)=P.cellsOf t/\∀f∈fs.toList,fit P h k f.type ((cs.drop f.offset).take (P.cellsOf f.type))
  | some (.array n e)=>(M cs)=P.cellsOf t/\∀i,i<n->fit P h k e ((cs.drop (i*P.cellsOf e)).take (P.cellsOf e))
  | _=>True
def uY(P:ak)(h:Hp)(k:Nat)(t:O)(v:D):Prop:=
 match ta P t with
 | some true=>∃cs:List D,v=aC (Y cs)/\fit P h k t cs
 | _=>fit P h k t [v]
def fitAll(P:ak)(h:Hp):List O->List D->Prop
 | [],[]=>True
 | t :: ts,v :: vs=>(∃k,uY P h k t v)/\fitAll P h ts vs
 | _,_=>False
theorem RY{β:Type}{f:α->Option β}:∀{l:List α} {r:List β},l.mapM f=G r->(M r)=(M l)/\∀(i:Nat) (x:α) (y:β),l[i]? = G x->r[i]? = G y->f x=G y
 | [],r,h=>by
  grind
 | a :: l,r,h=>by
  rw[bb]at h
  cases g:f a with
  | none=>grind
  | some b=>
   rw[g]at h
   cases c:l.mapM f with
   | none=>grind
   | some bs=>
    simp[c]at h;subst h;let⟨p,j⟩:=RY c
    grind
theorem Eg{w:am}{base:Nat}{c:List D}(h:w.cells? base a n=G c):(M c)=n/\∀i (hi:i<(M c)),w.cell? (a.add i)=G c[i]:=by
 unfold World.cells? at h;split at h
 .let⟨f,g⟩:=RY h;rw[bg]at f;refine⟨f,fun i hi=>g i i c[i] ?_ ?_⟩
  .grind
  grind
 .cases h
theorem uZ{w:am}(h:w.cell? (a.add i)=G v)(hi:i=0):a.spot=U:=by
 subst hi;have e:a.add 0=a:=by simp[Addr.add]
 rw[e]at h;unfold World.cell? at h;split at h
 .split at h
  .cases h
  .rename_i c;simpa using c
 .cases h
theorem OH{H:Type}{q:Nat->Bool}:∀(ts:List O) (c:List (DataW H)),(DataW.weightsEach P ts c).all q=true->∀(i:Nat) (t:O) (d:DataW H),ts[i]? = G t->c[i]? = G d->(d.weights P t).all q=true
 | [],_,_,i,t,d,ht,_=>by simp at ht
 | t :: ts,[],_,i,t',d,_,hd=>by simp at hd
 | t :: ts,d :: c,h,i,t',d',ht,hd=>by
  simp only[DataW.weightsEach,a8,ax]at h
  cases i with
  | zero=>grind
  | succ i=>simp at ht hd;exact OH ts c h.2 i t' d' ht hd
theorem TX{H:Type}{q:Nat->Bool}:∀(c:List (DataW H)),(DataW.weightsAll P e c).all q=true->∀(i:Nat) (d:DataW H),c[i]? = G d->(d.weights P e).all q=true
 | [],_,i,d,hd=>by simp at hd
 | d :: c,h,i,d',hd=>by
  simp only[DataW.weightsAll,a8,ax]at h
  cases i with
  | zero=>grind
  | succ i=>simp at hd;exact TX c h.2 i d' hd
theorem SL{H:Type}{enc:O × D->H}{w:am}:∀(k:Nat) (t:O) (cs:List D) (d:DataW H) (I:List MemPlace),
  DataW.trod enc P w 0 (fun _=>true) true k t cs=G (d,I)->(d.weights P t).all (· <= reachBytes)=true->fit P w.heap k t cs
 | 0,t,cs,d,I,h,_=>by simp[DataW.trod]at h
 | k+1,t,cs,d,I,h,hw=>by
  unfold DataW.trod at h;unfold fit;split at h
  .grind
  .grind
  .grind
  .rename_i s c;rw[c];split at h
   .simp only[Option.some.injEq,Prod.mk.injEq]at h;obtain⟨rfl,_⟩:=h;refine⟨_,rfl,?_⟩
    simpa [DataW.weights] using hw
   .cases h
  .grind
  .grind
  .grind
  .rename_i e a len cap c;rw[c];split at h
   .rename_i Kf;simp only[if_true]at h
    cases V:((a3 len).mapM fun i=>(w.cells? 0 (a.add (i*P.cellsOf e)) (P.cellsOf e)).bind (DataW.trod enc P w 0 (fun _=>true) true k e)) with
    | none=>grind
    | some elems=>
     rw[V]at h;simp only[aw]at h
     cases hr:((a3 (cap-len)).mapM fun j=>(w.cells? 0 (a.add ((len+j)*P.cellsOf e)) (P.cellsOf e)).bind (DataW.trod enc P w 0 (fun _=>true) true k e)) with
     | none=>grind
     | some rest=>
      rw[hr]at h;simp only[aF,Option.some.injEq,Prod.mk.injEq]at h;obtain⟨rfl,_⟩:=h;obtain⟨A,g1⟩:=RY V;obtain⟨l2,_⟩:=RY hr;rw[bg]at A l2;simp only[DataW.weights,c,a6,a8,ax,List.length_map,decide_eq_true_eq]at hw;refine⟨_,_,_,rfl,Kf.2.1,?_,fun hlen ao=>?_⟩
      .grind
      .have z:∀i,i<len->∃q x,w.cells? 0 (a.add (i*P.cellsOf e)) (P.cellsOf e)=G q/\elems[i]? = G x/\DataW.trod enc P w 0 (fun _=>true) true k e q=G x:=by
        intro i hi;have g:elems[i]? = G elems[i]:=aL uh;have:=g1 i i elems[i] zK g
        cases hc:w.cells? 0 (a.add (i*P.cellsOf e)) (P.cellsOf e) with
        | none=>grind
        | some q=>grind
       obtain⟨u,x0,HK,_,_⟩:=z 0 uh;obtain⟨q1,C⟩:=Eg HK;have e0:a.add (0*P.cellsOf e)=a:=by simp[Addr.add]
       rw[e0]at C;have Bu:a.spot=U:=uZ (C 0 uh) rfl;have S:w.cell? a=G u[0]:=by have:=C 0 uh;simpa [Addr.add] using this
       have Ye:a.block<w.heap.size:=O9 (h:=w.heap) (p:=a) (v:=u[0]) S;refine⟨a.block,a.off,?_,Ye,fun i hi=>?_⟩
       .obtain⟨b,o,s⟩:=a;grind
       .obtain⟨q,x,hc,g,ht⟩:=z i hi;obtain⟨r1,r2⟩:=Eg hc;refine⟨q,r1,fun j hj=>?_,?_⟩
        .have:=r2 j hj;rw[Mf a _ Bu,X9]at this;exact this
        .refine SL k e q x.1 x.2 ht ?_;exact TX _ hw.2.1 i x.1 zK
   .cases h
  .rename_i cs _ _ W c;rw[c];split at h
   .rename_i hlen
    cases r:(W.toList.mapM fun f=>DataW.trod enc P w 0 (fun _=>true) true k f.type ((cs.drop f.offset).take (P.cellsOf f.type))) with
    | none=>grind
    | some xs=>
     rw[r]at h;simp only[aF,Option.some.injEq,Prod.mk.injEq]at h;obtain⟨rfl,_⟩:=h;obtain⟨A,g1⟩:=RY r;refine⟨hlen,fun f hf=>?_⟩;obtain⟨i,hi,ut⟩:=List.mem_iff_getElem.1 hf;have g:xs[i]? = G xs[i]:=aL uh;have L:W.toList[i]? = G f:=by rw[aL hi,ut]
     refine SL k _ _ xs[i].1 xs[i].2 (g1 i f xs[i] L g) ?_;simp only[DataW.weights,c]at hw;exact OH _ _ hw i f.type xs[i].1 zK zK
   .cases h
  .rename_i cs _ _ n e c;rw[c];split at h
   .rename_i hlen
    cases r:((a3 n).mapM fun i=>DataW.trod enc P w 0 (fun _=>true) true k e ((cs.drop (i*P.cellsOf e)).take (P.cellsOf e))) with
    | none=>grind
    | some xs=>
     rw[r]at h;simp only[aF,Option.some.injEq,Prod.mk.injEq]at h;obtain⟨rfl,_⟩:=h;obtain⟨A,g1⟩:=RY r;rw[bg]at A;refine⟨hlen,fun i hi=>?_⟩;have g:xs[i]? = G xs[i]:=aL uh;refine SL k _ _ xs[i].1 xs[i].2 (g1 i i xs[i] zK g) ?_;simp only[DataW.weights,c]at hw;exact TX _ hw i xs[i].1 zK
   .cases h
  all_goals first|(cases h;done)|(rename_i c;rw[c];trivial)
theorem ZfY{w:am}{r:Reach}{base:Nat}{cs:Array D}(c:ta P t=G false)(h:Value.okWide P w r base t (aC cs)):False:=by
 unfold ta at c;unfold Value.okWide at h
 cases f:P.underlying t with
 | none=>grind
 | some d=>
  rw[f]at c h
  cases d<;>simp at c<;>simp[Cell.okWide,Cell.ok,f]at h
theorem ZfZ{H:Type}{enc:O × D->H}{w:am}{r:Reach}{base:Nat}{d:DataW H}{g:List MemPlace}(z:(ta P t).isSome=true)(f:Value.okWide P w r base t v)(h:DataW.Trod enc P w 0 (fun _=>true) true t v d g)(hw:(d.weights P t).all (· <= reachBytes)=true):∃k,uY P w.heap k t v:=by
 let⟨k,q⟩:=h;have s:=SL k t _ d g q hw;refine⟨k,?_⟩;unfold uY
 cases c:ta P t with
 | none=>grind
 | some b=>
  cases b with
  | true=>
   unfold ta at c;unfold Value.okWide at f
   cases p:P.underlying t with
   | none=>grind
   | some u=>
    rw[p]at c f;have:∃cs,v=aC cs:=by
     cases u<;>simp at c<;>(let⟨cs,j,_⟩:=f;exact⟨cs,j⟩)
    obtain⟨cs,rfl⟩:=this;exact⟨cs.toList,zX,s⟩
  | false=>
   have:v.cells.toList=[v]:=by
    cases v with
    | agg cs=>exact (ZfY c f).elim
    | _=>rfl
   grind
theorem Bw{H:Type}{enc:O × D->H}{w:am}{base:Nat}:∀(ts:List O) (vs:List D) (c:List (DataW H)) (g:List MemPlace),
  ts.all (fun t=>(ta P t).isSome)=true->(∀(j:Nat) t v,ts[j]? = G t->vs[j]? = G v->Value.okWide P w .any base t v)->DataW.TrodAll enc P w 0 (fun _=>true) true ts vs c g ->
  (DataW.weightsEach P ts c).all (· <= reachBytes)=true->fitAll P w.heap ts vs
 | [],vs,c,g,_,_,h,_=>by
  obtain⟨rfl,rfl,rfl⟩:=trodAll_nil h;trivial
 | t :: ts,vs,c,g,ha,hv,h,hw=>by
  obtain⟨v,f,d,s,p,q,rfl,rfl,rfl,A,z⟩:=trodAll_cons h;simp only[a6,ax]at ha;simp only[DataW.weightsEach,a8,ax]at hw;exact⟨ZfZ ha.1 (hv 0 t v rfl rfl) A hw.1,Bw ts f s q ha.2 (fun j t v u r=>hv (j+1) t v u r) z hw.2⟩
theorem MR{H:Type}{enc:O × D->H}(s:laidOutB P=true){W u:am}(hb:Below W.heap.size W u):∀(ts:List O) (vs:List D) (f:List (DataW H)) (c:List MemPlace),
  ts.all (fun t=>P.readableRec t&&decide (t<P.types.size))=true->DataW.TrodAll enc P W 0 (fun _=>true) true ts vs f c->(∀x∈c,x.block<W.heap.size) ->
  DataW.TrodAll enc P u 0 (fun b=>decide (b<W.heap.size)) true ts vs f c
 | [],vs,f,c,_,h,_=>by
  obtain⟨rfl,rfl,rfl⟩:=trodAll_nil h;rfl
 | t :: ts,vs,f,c,ha,h,Ye=>by
  obtain⟨v,g,d,r,p,q,rfl,rfl,rfl,z,w⟩:=trodAll_cons h;simp only[a6,ax,decide_eq_true_eq]at ha;exact⟨p,q,Below.trod s ha.1.1 ha.1.2 z hb (fun x j=>Ye x (by simp[j])),MR s hb ts g r q ha.2 w (fun x j=>Ye x (by simp[j])),rfl⟩
theorem Nb{H:Type}{enc:O × D->H}{w:am}{sp:Nat->Bool}{r:Bool}:∀(ts:List O) (vs:List D) (c:List (DataW H)) (g:List MemPlace),DataW.TrodAll enc P w b sp r ts vs c g->(M c)=(M ts)
 | [],vs,c,g,h=>by obtain⟨rfl,rfl,rfl⟩:=trodAll_nil h;rfl
 | t :: ts,vs,c,g,h=>by
  obtain⟨v,f,d,j,p,q,rfl,rfl,rfl,u,s⟩:=trodAll_cons h;simp[Nb ts f j q s]
theorem Za3{W f:am}(c:Vz W f h')(hb:Zm W.heap.size W.heap h'):Below W.heap.size W f:=
 ⟨c.os,c.tape,c.output,by rw[c.heap];exact hb.size,fun k g=>by rw[c.heap];exact hb.block k g⟩
theorem Za4{rest:List (List Char)}(h:behindMainWord (wordsSigns P.initOrder.toList) = "cut".toList :: rest):P.make=G .cut:=by
 unfold Program.make
 grind
theorem Bx(rest:List (List Char)):stripLifts liftWords ("cut".toList :: rest)=([], "cut".toList :: rest):=by rfl
theorem vd{rest:List (List Char)}(h:behindMainWord (wordsSigns P.initOrder.toList) = "cut".toList :: rest):P.liftsFinal=false:=by
 unfold Program.liftsFinal Program.headLifts;rw[h,Bx];rfl
theorem ve{rest:List (List Char)}(h:behindMainWord (wordsSigns P.initOrder.toList) = "cut".toList :: rest)(g:P.laysLater=false)(f:P.bearsReflect=false)(c:P.doorFits []=true):P.mayEnter=true:=by
 unfold Program.mayEnter
 grind [Bx]
theorem vf{L:List Char}(h:P.initOrder=String.ofList L)(c:((behindMainWord (wordsSigns L)).head? == G "cut".toList)=true):∃rest,behindMainWord (wordsSigns P.initOrder.toList) = "cut".toList :: rest:=by
 rw[h,String.toList_ofList]
 revert c
 cases behindMainWord (wordsSigns L) with
 | nil=>grind
 | cons a l=>
  grind
attribute [go_sem ↓] reduceIte
end Go.V
