/- Part V9. -/
import Derived.Calls
import Derived.OrdersHeld
import Derived.Still
import Derived.Tactics
import Derived.Laws.Sem
import Derived.KernelRfl
import Derived.IntWalk
import Derived.Laws.Strings
import Derived.WalkKit
import Derived.ProofKit
import Derived.OpenShut
import Derived.SizedLaws
import Derived.JoinedCond
import Derived.Deep.CondSized
import Derived.Carry
open Go.Value renaming pointer→J,slice→Z,bool→al,agg→aI
open Go.Obj renaming cells→Y
open List renaming length→M,eq_nil_of_length_eq_zero→a1,getElem?_eq_getElem→a6,length_cons→be,length_append→bh,getElem?_map→bn,range→bo,all_cons→bw,all_append→bA,length_pos_iff→bD,getElem?_range→bE,mapM_cons→bH,getD_eq_getElem?_getD→bK,getElem?_append_left→bL,length_range→bS,all_eq_true→bT,getElem?_cons_zero→bV,getElem?_cons_succ→b0,getElem?_toArray→b6,drop_succ_cons→ca,set_cons_zero→cd,set_cons_succ→cf,mapM_toArray→ch,size_toArray→co,length_drop→cq,cons_append→ct,range'→cu,length_nil→cy,mapM_nil→cA,map_cons→cB
open Nat renaming mod_eq_of_lt→a8,mul_le_mul_right→a9,add_mul→bk,le_refl→bx,pow_le_pow_right→bz,zero_add→b2,add_assoc→cc,add_zero→ck,add_comm→cn,sub_mul→cv,min_eq_left→cz,ble→cP
open Int renaming toNat_natCast→cp
open Option renaming bind_some→ao,map_some→a0,isSome_none→bJ,some→G,none→U
open Array renaming getElem?_setIfInBounds→av,getElem?_push→a2,getElem?_eq_some_iff→a4,ext_getElem?→bb,toList_setIfInBounds→bc,getElem?_eq_getElem→bf,size_push→bg,toList_map→bp,getD_eq_getD_getElem?→bG,range→bP,toList_inj→bU,getElem?_eq_none→b1,mem_of_getElem?→b4,getElem?_toList→b5,toArray_toList→b8,replicate→cx,zipIdx→cS
open Bool renaming and_eq_true→aw,false_eq_true→a3
open Go.IntWalk renaming i64_in→b9
open Go.Builtin renaming nextslicecap→a7,growBy→bd,zeroCells→bR,append_→b3,len_→cT
open Go.Region renaming ready→ba,wanted→br,noSelect_spec→b7,binds→cg,free_spec→cr,noSelect→cw
open Go renaming Value→D,TypeId→O,Program→aa,World→am,Operand→a5
namespace Go.V
theorem gX{p:Prop}(h:p:=by omega):p:=h
theorem po{p:Prop}(h:p:=by kernel_rfl):p:=h
theorem Dq{p:Prop}(h:p:=by simp):p:=h
theorem L6{p:Prop}(h:p:=by simp;omega):p:=h
theorem MI{p:Prop}(h:p:=by intro e;cases e):p:=h
theorem MZ{p:Prop}(h:p:=by decide):p:=h
theorem aaa{p:Prop}(h:p:=by first|omega|(simp;omega)):p:=h
theorem aab{p:Prop}(h:p:=by assumption):p:=h
theorem aac{p:Prop}(h:p:=by rw[List.length_take];omega):p:=h
theorem aad{p:Prop}(h:p:=by rw[cq];omega):p:=h
theorem aae{p:Prop}(h:p:=by simp only[a2,bg,IntWalk.iteOmega,↓reduceIte]):p:=h
theorem aaf{p:Prop}(h:p:=by simp only[bg];omega):p:=h
theorem aag{p:Prop}(h:p:=by rw[bh];omega):p:=h
theorem aah{p:Prop}(h:p:=by simp only[List.length_singleton];omega):p:=h
theorem aai{p:Prop}(h:p:=by intro q;cases q):p:=h
variable{B b cap i len m n o:Nat}{E e t:O}{P:aa}{a:Addr}{cs l:List D}{d:Option Tmp}{k:IntKind}{lo:Option D}{ops:List Oper}{parts:List (Nat × D)}{place:Nat->Option (Nat × Nat)}{v:D}{x y:a5}{α:Type}
theorem ZD(x:α):∃y,y=x:=⟨x,rfl⟩
abbrev Env:=Nat->D
def Gz(F:Env)(d:Nat)(v:D):Env:=fun t=>if t=d then v else F t
def Z5(F:Env):Option Nat->D->Env
 | none,_=>F
 | some d,v=>Gz F d v
def ev(F:Env):a5->D
 | .tmp t=>F t
 | .const v=>v
 | .global g=>J (G ⟨g,0,U⟩)
 | .func f=>.func (.func f) #[] #[]
def Ot:List D->Nat->Env
 | [],_=>fun _=>undef
 | v :: l,k=>Gz (Ot l (k+1)) k v
def env(a:Act):Env:=fun t=>a.tmps.getD t undef
theorem QV(a:Act):a.eval=ev (env a):=by
 funext x;cases x<;>rfl
theorem QW(a:Act)(dst:Option Nat)(v:D)(h:∀d,dst=G d->d<a.tmps.size):env (a.put dst v)=Z5 (env a) dst v:=by
 cases dst with
 | none=>rfl
 | some d=>
  funext t
  have hd:=h d rfl;simp only[env,Act.put,Z5,Gz,bG,av];by_cases htd:d=t
  .subst htd;simp[hd]
  .rw[if_neg htd,if_neg (fun h=>htd h.symm)]
theorem size_put(a:Act)(dst:Option Nat)(v:D):(a.put dst v).tmps.size=a.tmps.size:=by
 cases dst<;>simp[Act.put]
abbrev Hp:=Array Obj
variable{N:Env->Hp->Prop}{Q:D->Hp->Prop}{h h':Hp}
structure Je(T:am)(w:am)(h:Hp):Prop where
 heap:w.heap=h
 tape:w.tape=T.tape
 os:w.os=T.os
 output:w.output=T.output
def hc(h:Hp)(a:Addr):Option D:=
 match h[a.block]? with
 | some (Y c _ _)=>if a.spot.isSome then U else c[a.off]?
 | _=>U
def XN(h:Hp)(r:Nat):Option (O × Nat):=
 match h[r]? with
 | some (Y c elem _)=>G (elem,c.size)
 | _=>U
def nf(h:Hp)(a:Addr):Bool:=
 match h[a.block]? with
 | some (Y _ _ (lo,hi))=>lo<=a.off&&a.off<hi
 | _=>false
def gY(h:Hp)(a:Addr)(v:D):Hp:=
 h.modify a.block fun
  | Y c elem frozen=>Y (if a.spot.isSome then c else c.setIfInBounds a.off v) elem frozen
  | o=>o
def We(h:Hp)(a:Addr)(n:Nat):Hp:=
 if n=0 then h else
 h.modify a.block fun
  | Y c elem (lo,hi)=>Y c elem (if lo == hi then (a.off,a.off+n) else (min lo a.off,max hi (a.off+n)))
  | o=>o
def Ka:Obj->Bool
 | .cells .. => true
 | _=>false
def Yq:D->Bool
 | aI _|.tuple _=>false
 | _=>true
def hw{α:Type}(P:aa):Sem α->(α->Hp->Prop)->Hp->Prop
 | .pure a,Q,h=>Q a h
 | .load _ a k,Q,h=>∃v,hc h a=G v/\hw P (k v) Q h
 | .store _ a v k,Q,h=>Yq v=true/\(∃u,hc h a=G u)/\nf h a=false/\hw P k Q (gY h a v)
 | .new o k,Q,h=>hw P (k h.size) Q (h.push o)
 | .shape r k,Q,h=>hw P (k (XN h r)) Q h
 | .freeze a n k,Q,h=>hw P k Q (We h a n)
 | .frozen a k,Q,h=>hw P (k (nf h a)) Q h
 | .getObj r k,Q,h=>∃o,h[r]? = G o/\Ka o=false/\hw P (k o) Q h
 | .setObj r o k,Q,h=>(∃o',h[r]? = G o'/\Ka o'=false)/\hw P k Q (h.setIfInBounds r o)
 | .choose q k,Q,h=>if q.forced then hw P (k 0) Q h else ∀t,hw P (k (q.cut t)) Q h
 | .sys _ _,_,_=>False
 | .program k,Q,h=>hw P (k P) Q h
 | .mark _ k,Q,h=>hw P k Q h
 | .halt _,_,_=>False
theorem ng{T:am}:∀(s:Sem α) (Q:α->Hp->Prop) (h:Hp),hw P s Q h->∀w,Je T w h ->
  ∃a w' h',s.run P w=.ok a w'/\Je T w' h'/\Q a h':=by
 intro s
 induction s with
 | pure a=>intro Q h H w hs;exact⟨a,w,h,rfl,hs,H⟩
 | load m a k ih=>
  intro Q h H w hs;obtain⟨v,hv,H⟩:=H;obtain⟨a',w',h',hr,r⟩:=ih v Q h H w hs;refine⟨a',w',h',?_,r⟩;have:w.cell? a=G v:=by rw[World.cell?,hs.heap];exact hv
  rw[Sem.run,this];exact hr
 | store m a v k ih=>
  intro Q h H w hs;obtain⟨h1,⟨u,h2⟩,h3,H⟩:=H;have V1:Je T (w.setCell a v) (gY h a v):=⟨by simp only[World.setCell,gY,hs.heap];rfl,hs.tape,hs.os,hs.output⟩
  obtain⟨a',w',h',hr,r⟩:=ih Q _ H _ V1;refine⟨a',w',h',?_,r⟩;have e1:w.cell? a=G u:=by rw[World.cell?,hs.heap];exact h2
  have e2:w.frozen? a=false:=by rw[World.frozen?,hs.heap];exact h3
  cases v<;>first|(simp[Yq]at h1;done)|(simp only[Sem.run,e1,e2,a3,if_false];exact hr)
 | new o k ih=>
  intro Q h H w hs;have V1:Je T { w with heap:=w.heap.push o } (h.push o):=⟨by simp only[hs.heap],hs.tape,hs.os,hs.output⟩
  have e:w.heap.size=h.size:=by rw[hs.heap]
  obtain⟨a',w',h',hr,r⟩:=ih h.size Q _ H _ V1;refine⟨a',w',h',?_,r⟩;rw[Sem.run,e];exact hr
 | shape r k ih=>
  intro Q h H w hs;obtain⟨a',w',h',hr,r'⟩:=ih _ Q h H w hs;refine⟨a',w',h',?_,r'⟩;have:w.shape? r=XN h r:=by rw[World.shape?,hs.heap];rfl
  rw[Sem.run,this];exact hr
 | freeze a n k ih=>
  intro Q h H w hs;have V1:Je T (w.freeze a n) (We h a n):=by
   unfold World.freeze We;split
   .exact hs
   .exact⟨by simp only[hs.heap];rfl,hs.tape,hs.os,hs.output⟩
  obtain⟨a',w',h',hr,r'⟩:=ih Q _ H _ V1;exact⟨a',w',h',by rw[Sem.run];exact hr,r'⟩
 | frozen a k ih=>
  intro Q h H w hs;obtain⟨a',w',h',hr,r'⟩:=ih _ Q h H w hs;refine⟨a',w',h',?_,r'⟩;have:w.frozen? a=nf h a:=by rw[World.frozen?,hs.heap];rfl
  rw[Sem.run,this];exact hr
 | getObj r k ih=>
  intro Q h H w hs;obtain⟨o,ho,hc,H⟩:=H;obtain⟨a',w',h',hr,r'⟩:=ih o Q h H w hs;refine⟨a',w',h',?_,r'⟩;have e:w.heap[r]? = G o:=by rw[hs.heap];exact ho
  simp only[Sem.run,e]
  cases o<;>first|(simp[Ka]at hc;done)|exact hr
 | setObj r o k ih=>
  intro Q h H w hs;obtain⟨⟨o',ho,hc⟩,H⟩:=H;have V1:Je T { w with heap:=w.heap.setIfInBounds r o } (h.setIfInBounds r o):=⟨by simp only[hs.heap],hs.tape,hs.os,hs.output⟩
  obtain⟨a',w',h',hr,r'⟩:=ih Q _ H _ V1;refine⟨a',w',h',?_,r'⟩;have e:w.heap[r]? = G o':=by rw[hs.heap];exact ho
  simp only[Sem.run,e]
  cases o'<;>first|(simp[Ka]at hc;done)|exact hr
 | choose q k ih=>
  intro Q h H w hs;simp only[hw]at H;split at H
  .rename_i hq;obtain⟨a',w',h',hr,r'⟩:=ih _ Q h H w hs;exact⟨a',w',h',by rw[Sem.run,if_pos hq];exact hr,r'⟩
  .rename_i hq;have V1:Je T { w with drawn:=w.drawn+1 } h:=⟨hs.heap,hs.tape,hs.os,hs.output⟩
   obtain⟨a',w',h',hr,r'⟩:=ih _ Q h (H (w.tape w.drawn q)) _ V1;exact⟨a',w',h',by rw[Sem.run,if_neg hq];exact hr,r'⟩
 | sys c k ih=>intro Q h H;exact H.elim
 | program k ih=>
  intro Q h H w hs;obtain⟨a',w',h',hr,r'⟩:=ih _ Q h H w hs;exact⟨a',w',h',by rw[Sem.run];exact hr,r'⟩
 | mark m k ih=>
  intro Q h H w hs;obtain⟨a',w',h',hr,r'⟩:=ih Q h H w hs;exact⟨a',w',h',by rw[Sem.run];exact hr,r'⟩
 | halt x=>intro Q h H;exact H.elim
theorem Ze{β:Type}(s:Sem α)(f:α->Sem β)(Q:β->Hp->Prop):∀h,hw P (s >>= f) Q h=hw P s (fun a h'=>hw P (f a) Q h') h:=by
 show ∀h,hw P (s.bind f) Q h=_
 induction s with
 | pure a=>intro h;rfl
 | load m a k ih=>intro h;simp only[Sem.bind,hw,ih]
 | store m a v k ih=>intro h;simp only[Sem.bind,hw,ih]
 | new o k ih=>intro h;simp only[Sem.bind,hw,ih]
 | shape r k ih=>intro h;simp only[Sem.bind,hw,ih]
 | freeze a n k ih=>intro h;simp only[Sem.bind,hw,ih]
 | frozen a k ih=>intro h;simp only[Sem.bind,hw,ih]
 | getObj r k ih=>intro h;simp only[Sem.bind,hw,ih]
 | setObj r o k ih=>intro h;simp only[Sem.bind,hw,ih]
 | choose q k ih=>intro h;simp only[Sem.bind,hw,ih]
 | sys c k ih=>intro h;simp only[Sem.bind,hw]
 | program k ih=>intro h;simp only[Sem.bind,hw,ih]
 | mark m k ih=>intro h;simp only[Sem.bind,hw,ih]
 | halt x=>intro h;rfl
theorem eB{Q Q':α->Hp->Prop}(hq:∀a h,Q a h->Q' a h):∀(s:Sem α) (h:Hp),hw P s Q h->hw P s Q' h:=by
 intro s
 induction s with
 | pure a=>intro h H;exact hq _ _ H
 | load m a k ih=>intro h H;obtain⟨v,hv,H⟩:=H;exact⟨v,hv,ih _ _ H⟩
 | store m a v k ih=>intro h H;obtain⟨h1,h2,h3,H⟩:=H;exact⟨h1,h2,h3,ih _ H⟩
 | new o k ih=>intro h H;exact ih _ _ H
 | shape r k ih=>intro h H;exact ih _ _ H
 | freeze a n k ih=>intro h H;exact ih _ H
 | frozen a k ih=>intro h H;exact ih _ _ H
 | getObj r k ih=>intro h H;obtain⟨o,h1,h2,H⟩:=H;exact⟨o,h1,h2,ih _ _ H⟩
 | setObj r o k ih=>intro h H;obtain⟨h1,H⟩:=H;exact⟨h1,ih _ H⟩
 | choose q k ih=>
  intro h H;simp only[hw]at H ⊢;split at H
  .rename_i hf;rw[if_pos hf];exact ih _ _ H
  .rename_i hf;rw[if_neg hf];exact fun t=>ih _ _ (H t)
 | sys c k ih=>intro h H;exact H
 | program k ih=>intro h H;exact ih _ _ H
 | mark m k ih=>intro h H;exact ih _ H
 | halt x=>intro h H;exact H
def Zc(P:aa)(T:am)(f:FuncId)(args:Array D)(h:Hp)(Q:D->Hp->Prop):Prop:=
 ∀w,Je T w h->Calls P f args w fun e w'=>∃v h',e=.returned v/\Je T w' h'/\Q v h'
theorem Zc.mono{T:am}{f:FuncId}{args:Array D}{Q':D->Hp->Prop}(H:Zc P T f args h Q)(hq:∀v h',Q v h'->Q' v h'):Zc P T f args h Q':=
 fun w hs=>(H w hs).mono fun _ _ ⟨v,h',he,V1,q⟩=>⟨v,h',he,V1,hq _ _ q⟩
def XA(P:aa)(T:am)(K:D->Hp->Prop):Next->Hp->Prop
 | .value v,h=>K v h
 | .skip,h=>K undef h
 | .enter f args,h=>Zc P T f args h K
 | _,_=>False
def HG(P:aa)(T:am)(o:Oper)(K:D->Hp->Prop)(F:Env)(h:Hp):Prop:=
 hw P (execOp (ev F) o) (XA P T K) h
theorem Ku{T:am}{K K':D->Hp->Prop}(hk:∀v h,K v h->K' v h):∀(x:Next) (h:Hp),XA P T K x h->XA P T K' x h:=by
 intro x h H
 cases x<;>simp only[XA]at H ⊢<;>first|exact hk _ _ H|exact H.mono hk
theorem Ou{T:am}{o:Oper}{K K':D->Hp->Prop}{F:Env}(hk:∀v h,K v h->K' v h)(H:HG P T o K F h):HG P T o K' F h:=
 eB (Ku hk) _ _ H
theorem NQ{T:am}{o:Oper}{K:D->Hp->Prop}{F:Env}(H:HG P T o K F h){a:Act}{w:am}(hF:env a=F)(hs:Je T w h){next:Act->am->Prop}{Q:Exit->Act->am->Prop}(hk:∀v w' h',Je T w' h'->K v h'->next (a.put o.dst v) w'):o.wp P a w next Q:=by
 obtain⟨x,w',h',hr,V1,hx⟩:=ng _ _ _ H w hs;unfold Oper.wp;rw[QV,hF,hr]
 cases x<;>simp only[XA]at hx
 case value v=>exact hk _ _ _ V1 hx
 case skip=>exact hk _ _ _ V1 hx
 case enter f args=>
  simp only[Oper.upon];exact (hx w' V1).mono fun e w'' ⟨v,NS,he,Znb,q⟩=>by subst he;exact hk _ _ _ Znb q
def UD(ops:Array Oper)(F:Env)(j:Nat):Option Bool:=
 match (ops[j]?).bind (·.dst) with
 | some t=>match F t with
  | al b=>G b
  | _=>U
 | none=>U
def Yo(ops:Array Oper)(o:Oper)(F:Env):Bool:=br o (UD ops F)
def nh(n:Nat)(o:Oper):Bool:=match o.dst with|some d=>Nat.blt d n|none=>true
def T9(n:Nat)(ops:Array Oper):Bool:=ops.toList.all (nh n)
theorem TL{o:Oper}(h:nh n o=true):∀d,o.dst=G d->d<n:=by
 intro d hd;unfold nh at h;rw[hd]at h;exact Nat.blt_eq.mp h
theorem Sv{ops:Array Oper}(XM:T9 n ops=true)(a:Act)(hn:a.tmps.size=n):yielded ops a.tmps=UD ops (env a):=by
 funext j
 unfold yielded UD
 cases hj:ops[j]? with
 | none=>rfl
 | some o=>
  simp only[ao]
  cases hd:o.dst with
  | none=>rfl
  | some d=>
   have ZL:d<a.tmps.size:=by
    rw[hn];have hm:o∈ops.toList:=by
     have:=b4 hj
     simpa using this
    exact TL (bT.1 XM o hm) d hd
   simp only[ao];rw[bf ZL];have:env a d=a.tmps[d]:=by simp[env,ZL]
   rw[this]
   cases a.tmps[d]<;>rfl
def HH(P:aa)(T:am)(ops:Array Oper)(N:Env->Hp->Prop):List Oper->Env->Hp->Prop
 | [],F,h=>N F h
 | o :: l,F,h=>
  if Yo ops o F then HG P T o (fun v h'=>HH P T ops N l (Z5 F o.dst v) h') F h
  else HH P T ops N l (Z5 F o.dst undef) h
def AE(n:Nat)(T:am)(N:Env->Hp->Prop)(X:Nat->Env->Hp->Prop)(R:Env->Hp->Prop)(e:Exit)(a:Act)(w:am):Prop:=
 a.tmps.size=n/\a.defers=[]/\∃h,Je T w h/\match e with
  | .normal=>N (env a) h
  | .exit j=>X j (env a) h
  | .ret=>R (env a) h
  | _=>False
def VS(P:aa)(n:Nat)(T:am)(c:Code)(N:Env->Hp->Prop)(X:Nat->Env->Hp->Prop)(R:Env->Hp->Prop)(F:Env)(h:Hp):Prop:=
 ∀a w,a.tmps.size=n->a.defers=[]->env a=F->Je T w h->c.wp P (AE n T N X R) a w
section
variable {P:aa} {n:Nat} {T:am} {N:Env->Hp->Prop} {X:Nat->Env->Hp->Prop} {R:Env->Hp->Prop} {F:Env} {h:Hp}
theorem VS.mono{c:Code}{N':Env->Hp->Prop}{X':Nat->Env->Hp->Prop}{R':Env->Hp->Prop}(H:VS P n T c N X R F h)(hN:∀F h,N F h->N' F h)(hX:∀j F h,X j F h->X' j F h)(hR:∀F h,R F h->R' F h):VS P n T c N' X' R' F h:=by
 intro a w h1 h2 h3 h4;refine Code.wp_mono (fun e a w ⟨q1,q2,h,q3,q4⟩=>⟨q1,q2,h,q3,?_⟩) (H a w h1 h2 h3 h4)
 cases e<;>simp only at q4 ⊢<;>first|exact hN _ _ q4|exact hX _ _ _ q4|exact hR _ _ q4
theorem VS.seq{c d:Code}(H:VS P n T c (fun F h=>VS P n T d N X R F h) X R F h):VS P n T (.seq c d) N X R F h:=by
 intro a w h1 h2 h3 h4;refine wp_seq (Code.wp_mono (fun e a w ⟨q1,q2,h,q3,q4⟩=>?_) (H a w h1 h2 h3 h4))
 cases e with
 | normal=>exact q4 a w q1 q2 rfl q3
 | exit j=>exact⟨q1,q2,h,q3,q4⟩
 | ret=>exact⟨q1,q2,h,q3,q4⟩
 | _=>exact q4.elim
theorem VS.skip(H:N F h):VS P n T .skip N X R F h:=by
 intro a w h1 h2 h3 h4;exact wp_skip ⟨h1,h2,h,h4,by rw[h3];exact H⟩
theorem VS.ret(H:R F h):VS P n T .ret N X R F h:=by
 intro a w h1 h2 h3 h4;exact wp_ret ⟨h1,h2,h,h4,by rw[h3];exact H⟩
theorem VS.exit{j:Nat}(H:X j F h):VS P n T (.exit j) N X R F h:=by
 intro a w h1 h2 h3 h4;exact wp_exit ⟨h1,h2,h,h4,by rw[h3];exact H⟩
theorem VS.block{j:Nat}{c:Code}(H:VS P n T c N (fun i F h=>if i=j then N F h else X i F h) R F h):VS P n T (.block j c) N X R F h:=by
 intro a w h1 h2 h3 h4;refine wp_block (Code.wp_mono (fun e a w ⟨q1,q2,h,q3,q4⟩=>?_) (H a w h1 h2 h3 h4))
 cases e with
 | normal=>exact⟨q1,q2,h,q3,q4⟩
 | exit i=>
  simp only[Exit.inBlock];simp only at q4;split
  .rename_i HI;rw[if_pos HI]at q4;exact⟨q1,q2,h,q3,q4⟩
  .rename_i HI;rw[if_neg HI]at q4;exact⟨q1,q2,h,q3,q4⟩
 | ret=>exact⟨q1,q2,h,q3,q4⟩
 | _=>exact q4.elim
theorem VS.cond{c:a5}{x y:Code}{b:Bool}(hc:ev F c=al b)(ht:b=true->VS P n T x N X R F h)(hf:b=false->VS P n T y N X R F h):
  VS P n T (.cond c x y) N X R F h:=by
 intro a w h1 h2 h3 h4;refine wp_cond_split (t:=b) (by rw[QV,h3];exact hc) (fun hb=>ht hb a w h1 h2 h3 h4) (fun hb=>hf hb a w h1 h2 h3 h4)
theorem VS.loop{c:Code}(I:Env->Hp->Prop)(μ:Env->Hp->Nat)(h0:I F h)(round:∀F h,I F h->VS P n T c (fun F' h'=>I F' h'/\μ F' h'<μ F h) X R F h):VS P n T (.loop c) N X R F h:=by
 intro a w h1 h2 h3 h4;refine wp_loop (fun a w=>a.tmps.size=n/\a.defers=[]/\Je T w w.heap/\I (env a) w.heap) (fun a w=>μ (env a) w.heap)
  ⟨h1,h2,by rw[h4.heap];exact h4,by rw[h3,h4.heap];exact h0⟩ ?_
 intro a w ⟨q1,q2,q3,q4⟩;refine Code.wp_mono (fun e a' w' ⟨p1,p2,h',p3,p4⟩=>?_) (round (env a) w.heap q4 a w q1 q2 rfl q3)
 cases e with
 | normal=>
  have e:=p3.heap;subst e;exact⟨⟨p1,p2,p3,p4.1⟩,p4.2⟩
 | exit j=>exact⟨p1,p2,h',p3,p4⟩
 | ret=>exact⟨p1,p2,h',p3,p4⟩
 | _=>exact p4.elim
theorem QX{ops:Array Oper}(XM:T9 n ops=true):∀(l:List Oper) (F:Env) (h:Hp),(∀o∈l,o∈ops.toList)->HH P T ops N l F h ->
  ∀a w,a.tmps.size=n->a.defers=[]->env a=F->Je T w h->wpList P ops (AE n T N X R) l a w
 | [],F,h,_,H,a,w,h1,h2,h3,h4=>⟨h1,h2,h,h4,by rw[h3];exact H⟩
 | o :: l,F,h,hm,H,a,w,h1,h2,h3,h4=>by
  have hd:∀d,o.dst=G d->d<a.tmps.size:=by
   rw[h1];exact TL (bT.1 XM o (hm o Dq))
  have Pv:∀o∈l,o∈ops.toList:=fun x hx=>hm x (by simp[hx]);have LM:br o (yielded ops a.tmps)=Yo ops o F:=by rw[Sv XM a h1,h3];rfl
  unfold wpList;rw[LM];unfold HH at H;split at H
  .rename_i hw;rw[if_pos hw];refine .inl (NQ H h3 h4 fun v w' h' V1 hk=>?_);exact QX XM l _ h' Pv hk _ _ (by rw[size_put,h1]) (by cases o.dst<;>exact h2) (by rw[QW a _ _ hd,h3]) V1
  .rename_i hw;rw[if_neg hw];exact QX XM l _ h Pv H _ _ (by rw[size_put,h1]) (by cases o.dst<;>exact h2) (by rw[QW a _ _ hd,h3]) h4
theorem VS.region{id:Nat}{ops:Array Oper}(XM:T9 n ops=true)(H:HH P T ops N ops.toList F h):VS P n T (.region id ops false) N X R F h:=by
 intro a w h1 h2 h3 h4;exact wp_region_list (QX XM ops.toList F h (fun _ h=>h) H a w h1 h2 h3 h4)
def Qp(P:aa)(T:am)(ops:Array Oper)(i:Nat)(K:Env->Hp->Prop)(F:Env)(h:Hp):Prop:=
 match ops[i]? with
 | none=>K F h
 | some o=>if Yo ops o F then HG P T o (fun v h'=>K (Z5 F o.dst v) h') F h else K (Z5 F o.dst undef) h
theorem Jf{ops:Array Oper}{K K':Env->Hp->Prop}(hk:∀F h,K F h->K' F h){F:Env}(H:Qp P T ops i K F h):Qp P T ops i K' F h:=by
 unfold Qp at *;split at H
 .exact hk _ _ H
 .split at H
  .rename_i hw;rw[if_pos hw];exact Ou (fun _ _ q=>hk _ _ q) H
  .rename_i hw;rw[if_neg hw];exact hk _ _ H
def AF(P:aa)(T:am)(ops:Array Oper)(S:Hp->Prop)(N:Env->Hp->Prop):Nat->Array Bool->Env->Hp->Prop
 | 0,listed,F,h=>ba .any ops listed=[]/\N F h
 | k+1,listed,F,h=>(ba .any ops listed=[]->N F h) /\
   ∀i∈ba .any ops listed,Qp P T ops i (fun F' h'=>S h'/\AF P T ops S N k (listed.setIfInBounds i true) F' h') F h
theorem X7{ops:Array Oper}{S:Hp->Prop}(XM:T9 n ops=true):∀(k:Nat) (listed:Array Bool) (F:Env) (h:Hp),AF P T ops S N k listed F h ->
  ∀a w,a.tmps.size=n->a.defers=[]->env a=F->Je T w h->wpAny P .any ops (AE n T N X R) k listed a w
 | 0,listed,F,h,H,a,w,h1,h2,h3,h4=>⟨H.1,h1,h2,h,h4,by rw[h3];exact H.2⟩
 | k+1,listed,F,h,H,a,w,h1,h2,h3,h4=>by
  refine⟨fun h0=>⟨h1,h2,h,h4,by rw[h3];exact H.1 h0⟩,fun i hi=>?_⟩;have Hi:=H.2 i hi;unfold Qp at Hi;unfold wpOp
  cases ho:ops[i]? with
  | none=>rw[ho]at Hi;exact X7 XM k _ F h Hi.2 a w h1 h2 h3 h4
  | some o=>
   rw[ho]at Hi;simp only at Hi ⊢;have hd:∀d,o.dst=G d->d<a.tmps.size:=by
    rw[h1];exact TL (bT.1 XM o (by have:=b4 ho;simpa using this))
   have LM:br o (yielded ops a.tmps)=Yo ops o F:=by rw[Sv XM a h1,h3];rfl
   rw[LM];split at Hi
   .rename_i hw;rw[if_pos hw];refine .inl (NQ Hi h3 h4 fun v w' h' V1 hk=>?_);exact X7 XM k _ _ h' hk.2 _ _ (by rw[size_put,h1]) (by cases o.dst<;>exact h2) (by rw[QW a _ _ hd,h3]) V1
   .rename_i hw;rw[if_neg hw];exact X7 XM k _ _ h Hi.2 _ _ (by rw[size_put,h1]) (by cases o.dst<;>exact h2) (by rw[QW a _ _ hd,h3]) h4
def QY(P:aa)(T:am)(ops:Array Oper)(S:Hp->Prop)(o:Oper)(v:D)(F:Env):Prop:=
 (Yo ops o F=true/\∀h,S h->HG P T o (fun v' h'=>v'=v/\h'=h) F h)\/(Yo ops o F=false/\v=undef)
theorem vC{F:Env}{dst:Option Nat}(hx:∀d,dst=G d->x ≠ .tmp d):ev (Z5 F dst v) x=ev F x:=by
 cases dst with
 | none=>rfl
 | some d=>
  cases x with
  | tmp t=>
   have Ys:t≠d:=fun e=>hx d rfl (by rw[e]);show (if t=d then v else F t)=F t;rw[if_neg Ys]
  | _=>rfl
theorem ML{ops:Array Oper}(o:Oper)(hs:∀cs b,o.op ≠ .select cs b)(F:Env)(dst:Option Nat)(v:D)(h:∀d,dst=G d->d ∉ o.looksAt ops):
  execOp (ev (Z5 F dst v)) o=execOp (ev F) o:=
 execOp_congr o hs fun x hx=>vC fun d hd hxd=>h d hd (by
  subst hxd;exact List.mem_append_left _ (List.mem_filterMap.2 ⟨.tmp d,by simpa using hx,rfl⟩))
theorem Ov{ops:Array Oper}(o:Oper)(F:Env)(dst:Option Nat)(v:D)(h:∀d,dst=G d->d ∉ o.looksAt ops):
  Yo ops o (Z5 F dst v)=Yo ops o F:=by
 cases dst with
 | none=>rfl
 | some d=>
  unfold Yo br
  cases hg:o.guard with
  | none=>rfl
  | some gw=>
   obtain⟨g,want⟩:=gw;simp only;have hd:=h d rfl;unfold Oper.looksAt at hd;rw[hg]at hd;simp only[List.mem_append,not_or]at hd;have:UD ops (Z5 F (G d) v) g=UD ops F g:=by
    unfold UD
    cases hb:(ops[g]?).bind (·.dst) with
    | none=>rfl
    | some t=>
     have Ys:t≠d:=fun e=>hd.2 (by rw[hb,e];simp);show (match (if t=d then v else F t) with|al b=>G b|_=>U)=_;rw[if_neg Ys]
   rw[this]
theorem GA(F:Env){d d':Option Nat}(v v':D)(h:∀x,d=G x->d'≠G x):Z5 (Z5 F d v) d' v'=Z5 (Z5 F d' v') d v:=by
 cases d with
 | none=>rfl
 | some x=>
  cases d' with
  | none=>rfl
  | some y=>
   have Ys:y≠x:=fun e=>h x rfl (by rw[e])
   funext t
   simp only[Z5,Gz];by_cases h1:t=y
   .subst h1;rw[if_pos rfl,if_neg Ys,if_pos rfl]
   .rw[if_neg h1];by_cases h2:t=x
    .rw[if_pos h2,if_pos h2]
    .rw[if_neg h2,if_neg h2,if_neg h1]
theorem QY.put{ops:Array Oper}{S:Hp->Prop}{o:Oper}(hs:∀cs b,o.op ≠ .select cs b){F:Env}(hy:QY P T ops S o v F){dst:Option Nat}{u:D}(h:∀d,dst=G d->d ∉ o.looksAt ops):QY P T ops S o v (Z5 F dst u):=by
 unfold QY HG at *;rw[Ov o F dst u h,ML o hs F dst u h];exact hy
theorem QY.opI{ops:Array Oper}{S:Hp->Prop}{o:Oper}{F:Env}(hi:ops[i]? = G o)(hy:QY P T ops S o v F)(hS:S h){K:Env->Hp->Prop}(H:K (Z5 F o.dst v) h):Qp P T ops i K F h:=by
 unfold Qp;rw[hi];rcases hy with⟨hw,hv⟩|⟨hw,rfl⟩
 .simp only[hw,if_true];exact Ou (fun v' h' ⟨e1,e2⟩=>by subst e1;subst e2;exact H) (hv h hS)
 .simp only[hw,a3,if_false];exact H
theorem Kv{ops:Array Oper}{S:Hp->Prop}{j:Nat}{oi oj:Oper}(hj:ops[j]? = G oj)(hap:oi.apart ops oj=true)(hsi:∀cs b,oi.op ≠ .select cs b)(hsj:∀cs b,oj.op ≠ .select cs b){K:Env->Hp->Prop}{F:Env}(hy:QY P T ops S oi v F)(H:Qp P T ops j K (Z5 F oi.dst v) h):Qp P T ops j (fun F' h'=>QY P T ops S oi v F'/\K (Z5 F' oi.dst v) h') F h:=by
 obtain⟨h1,h2,h3⟩:=Oper.apart_spec hap;unfold Qp at *;rw[hj]at *;simp only at *;rw[Ov oj F oi.dst v h1]at H;split at H
 .rename_i hw;rw[if_pos hw];unfold HG at *;rw[ML oj hsj F oi.dst v h1]at H;refine eB (Ku fun u h' q=>?_) _ _ H;exact⟨hy.put hsi h3,by rw[<-GA F v u h2];exact q⟩
 .rename_i hw;rw[if_neg hw];exact⟨hy.put hsi h3,by rw[<-GA F v undef h2];exact H⟩
theorem Kw{ops:Array Oper}{S:Hp->Prop}{oi:Oper}(hi:ops[i]? = G oi)(Dr:∀(j:Nat) (o:Oper) cs b,ops[j]? = G o->o.op ≠ .select cs b):
  ∀(k:Nat) (listed:Array Bool) (F:Env) (h:Hp),
   (∀j oj,ops[j]? = G oj->j≠i->listed.getD j true=false->(∀e∈oj.after,cg .any e=true->e.on≠i)->oi.apart ops oj=true) ->
   i∈ba .any ops listed->QY P T ops S oi v F->S h ->
   AF P T ops S N k (listed.setIfInBounds i true) (Z5 F oi.dst v) h->AF P T ops S N (k+1) listed F h:=by
 intro k
 induction k with
 | zero=>
  intro listed F h _ hr hy hS H;refine⟨fun h=>(by rw[h]at hr;cases hr),fun j hj=>?_⟩;by_cases Vb:j=i
  .subst Vb;exact hy.opI hi hS ⟨hS,H⟩
  .have:=ready_mono hj Vb;rw[H.1]at this
   cases this
 | succ k ih=>
  intro listed F h MM hr hy hS H;refine⟨fun h=>(by rw[h]at hr;cases hr),fun j hj=>?_⟩;by_cases Vb:j=i
  .subst Vb;exact hy.opI hi hS ⟨hS,H⟩
  .have h1:=H.2 j (ready_mono hj Vb);obtain⟨Ds,oj,hO,Xc⟩:=mem_ready.1 hj;have FH:∀e∈oj.after,cg .any e=true->e.on≠i:=fun e he hb heq=>by
    have h1:=Xc e he hb;have h0:=(mem_ready.1 hr).1;rw[heq]at h1;rcases Nat.lt_or_ge i listed.size with h'|h'
    .simp[h']at h0 h1;rw[h0]at h1;cases h1
    .simp[b1 h']at h1
   have h2:=Kv hO (MM j oj hO Vb Ds FH) (fun cs b=>Dr i oi cs b hi) (fun cs b=>Dr j oj cs b hO) hy h1;have Kx:∀k ok,ops[k]? = G ok->k≠i->(listed.setIfInBounds j true).getD k true=false ->
     (∀e∈ok.after,cg .any e=true->e.on≠i)->oi.apart ops ok=true:=fun k ok hk hki hun hno=>by
    refine MM k ok hk hki ?_ hno;by_cases eE:j=k
    .subst eE;exact Ds
    .rw[getD_set_ne true eE]at hun;exact hun
   refine Jf (fun F' h' h3=>⟨h3.2.1,ih (listed.setIfInBounds j true) F' h' Kx (ready_mono hr (Ne.symm Vb)) h3.1 h3.2.1 ?_⟩) h2;rw[Array.setIfInBounds_comm _ _ Vb];exact h3.2.2
def Ox(P:aa)(T:am)(ops:Array Oper)(S:Hp->Prop)(N:Env->Hp->Prop):List (Nat × Bool × Oper)->Env->Hp->Prop
 | [],F,h=>N F h
 | (_,q,o) :: l,F,h=>
  if Yo ops o F then
   if q then ∃v,(∀h',S h'->HG P T o (fun v' NS=>v'=v/\NS=h') F h')/\Ox P T ops S N l (Z5 F o.dst v) h
   else HG P T o (fun v h'=>S h'/\Ox P T ops S N l (Z5 F o.dst v) h') F h
  else Ox P T ops S N l (Z5 F o.dst undef) h
def UY(ops:Array Oper)(l:List (Nat × Bool)):List (Nat × Bool × Oper):=l.map fun (i,q)=>(i,q,ops.getD i default)
def Ky(ops:Array Oper):List (Nat × Bool)->Array Bool->Bool
 | [],listed=>(ba .any ops listed).isEmpty
 | (i,q) :: l,listed=>
  (if q then (ba .any ops listed).contains i&&Region.free .any ops listed i else (ba .any ops listed == [i]))&&Ky ops l (listed.setIfInBounds i true)
theorem Qq{ops:Array Oper}{S:Hp->Prop}(hs:cw ops=true):∀(l:List (Nat × Bool)) (listed:Array Bool) (F:Env) (h:Hp),Ky ops l listed=true->S h ->
  Ox P T ops S N (UY ops l) F h->AF P T ops S N (M l) listed F h
 | [],listed,F,h,hB,_,H=>⟨by simpa [Ky] using hB,H⟩
 | (i,q) :: l,listed,F,h,hB,hS,H=>by
  simp only[Ky,aw]at hB;obtain⟨UE,Sw⟩:=hB;have PM:i∈ba .any ops listed:=by
   cases q
   .simp only[a3,if_false,beq_iff_eq]at UE;rw[UE];simp
   .simp only[if_true,aw]at UE;simpa using UE.1
  obtain⟨_,o,ho,_⟩:=mem_ready.1 PM;have hp:UY ops ((i,q) :: l)=(i,q,o) :: UY ops l:=by simp[UY,ho]
  rw[hp]at H;simp only[Ox]at H
  cases q with
  | true=>
   simp only[if_true,aw]at UE H;split at H
   .rename_i hw;obtain⟨v,hv,H⟩:=H;exact Kw ho (b7 hs) (M l) listed F h (cr ho UE.2) PM (.inl ⟨hw,hv⟩) hS (Qq hs l _ _ _ Sw hS H)
   .rename_i hw;exact Kw ho (b7 hs) (M l) listed F h (cr ho UE.2) PM (.inr ⟨by simpa using hw,rfl⟩) hS (Qq hs l _ _ _ Sw hS H)
  | false=>
   simp only[a3,if_false,beq_iff_eq]at UE H;refine⟨fun h0=>(by rw[h0]at PM;cases PM),fun j hj=>?_⟩;rw[UE]at hj;have hj:j=i:=by simpa using hj
   subst hj;unfold Qp;rw[ho];simp only;split at H
   .rename_i hw;rw[if_pos hw];exact Ou (fun v h' q=>⟨q.1,Qq hs l _ _ _ Sw q.1 q.2⟩) H
   .rename_i hw;rw[if_neg hw];exact⟨hS,Qq hs l _ _ _ Sw hS H⟩
def V3(n:Nat)(ops:Array Oper)(l:List (Nat × Bool)):Bool:=
 T9 n ops&&(cw ops&&(Ky ops l (cx ops.size false)&&Nat.beq (M l) ops.size))
theorem VS.held{id:Nat}{ops:Array Oper}(S:Hp->Prop)(l:List (Nat × Bool))(hm:P.follows .mixedOrders=true)(XM:V3 n ops l=true)(hS:S h)(H:Ox P T ops S N (UY ops l) F h):VS P n T (.region id ops true) N X R F h:=by
 intro a w h1 h2 h3 h4;simp only[V3,aw]at XM;obtain⟨k1,k2,k3,k4⟩:=XM;refine wp_region_any hm ?_;have hl:(M l)=ops.size:=Nat.eq_of_beq_eq_true k4;rw[<-hl];refine X7 k1 _ _ F h (Qq k2 l _ F h (by rw[hl];exact k3) hS H) a _ h1 h2 h3 ⟨h4.heap,h4.tape,h4.os,h4.output⟩
theorem VS.quiet{id:Nat}{ops:Array Oper}(hm:P.follows .mixedOrders=true)(XM:V3 n ops ((bo ops.size).map fun i=>(i,true))=true)(H:Ox P T ops (fun h'=>h'=h) N (UY ops ((bo ops.size).map fun i=>(i,true))) F h):VS P n T (.region id ops true) N X R F h:=
 VS.held (fun h'=>h'=h) _ hm XM rfl H
def hr{α:Type}(P:aa):Sem α->Hp->Option α
 | .pure a,_=>G a
 | .load _ a k,h=>(hc h a).bind fun v=>hr P (k v) h
 | .shape r k,h=>hr P (k (XN h r)) h
 | .frozen a k,h=>hr P (k (nf h a)) h
 | .program k,h=>hr P (k P) h
 | _,_=>U
theorem nj{T:am}:∀(s:Sem α) (h:Hp) (a:α),hr P s h=G a->∀w,Je T w h->s.run P w=.ok a w:=by
 intro s
 induction s with
 | pure a=>intro h b H w hs;simp only[hr,Option.some.injEq]at H;rw[H];rfl
 | load m a k ih=>
  intro h b H w hs;simp only[hr]at H
  cases hv:hc h a with
  | none=>rw[hv]at H;cases H
  | some v=>
   rw[hv]at H;have:w.cell? a=G v:=by rw[World.cell?,hs.heap];exact hv
   rw[Sem.run,this];exact ih v h b H w hs
 | shape r k ih=>
  intro h b H w hs;have:w.shape? r=XN h r:=by rw[World.shape?,hs.heap];rfl
  rw[Sem.run,this];exact ih _ h b H w hs
 | frozen a k ih=>
  intro h b H w hs;have:w.frozen? a=nf h a:=by rw[World.frozen?,hs.heap];rfl
  rw[Sem.run,this];exact ih _ h b H w hs
 | program k ih=>intro h b H w hs;rw[Sem.run];exact ih _ h b H w hs
 | _=>intro h b H;cases H
theorem JP{β:Type}(s:Sem α)(f:α->Sem β):∀h,hr P (s >>= f) h=(hr P s h).bind fun a=>hr P (f a) h:=by
 show ∀h,hr P (s.bind f) h=_
 induction s with
 | load m a k ih=>intro h;simp only[Sem.bind,hr,ih];cases hc h a<;>rfl
 | shape r k ih=>intro h;simp only[Sem.bind,hr,ih]
 | frozen a k ih=>intro h;simp only[Sem.bind,hr,ih]
 | program k ih=>intro h;simp only[Sem.bind,hr,ih]
 | _=>intro h;rfl
def Oy(P:aa)(t:O)(v:D)(h:Hp):Option D:=
 match v with
 | J (G a)=>hr P (loadVar t a) h
 | _=>U
def JQ(P:aa)(F:Env)(h:Hp):List ResultVar->Option (List D)
 | []=>G []
 | .tmp t :: l=>(JQ P F h l).map (F t :: ·)
 | .cell a t :: l=>(Oy P t (F a) h).bind fun v=>(JQ P F h l).map (v :: ·)
def PN:List D->D
 | [v]=>v
 | l=>.tuple l.toArray
def Ws(P:aa)(l:List ResultVar)(F:Env)(Q:D->Hp->Prop)(h:Hp):Prop:=
 match JQ P F h l with
 | some vs=>Q (PN vs) h
 | none=>False
def vD(F:Env):ResultVar->Sem D
 | .tmp t=>pure (F t)
 | .cell a t=>do loadVar t (<-asAddr (F a))
theorem ib{F:Env}:∀(l:List ResultVar) (vs:List D),JQ P F h l=G vs->hr P (l.mapM (vD F)) h=G vs:=by
 intro l
 induction l with
 | nil=>intro vs H;simp only[JQ,Option.some.injEq]at H;subst H;rfl
 | cons x l ih=>
  intro vs H;rw[bH,JP]
  cases x with
  | tmp t=>
   simp only[JQ]at H
   cases hl:JQ P F h l with
   | none=>rw[hl]at H;cases H
   | some us=>
    rw[hl]at H;simp only[a0,Option.some.injEq]at H;subst H;show (G (F t)).bind _=_;rw[ao,JP,ih us hl];rfl
  | cell a t=>
   simp only[JQ]at H
   cases hv:Oy P t (F a) h with
   | none=>rw[hv]at H;cases H
   | some v=>
    rw[hv]at H
    cases hl:JQ P F h l with
    | none=>rw[hl]at H;cases H
    | some us=>
     rw[hl]at H;simp only[ao,a0,Option.some.injEq]at H;subst H;have e:hr P (vD F (.cell a t)) h=G v:=by
      show hr P (asAddr (F a) >>= fun b=>loadVar t b) h=G v;unfold Oy at hv;split at hv
      .rename_i b hb;rw[hb,JP];exact hv
      .cases hv
     rw[e,ao,JP,ih us hl];rfl
theorem MN{fn:Func}{l:List ResultVar}(hl:fn.results=l.toArray){a:Act}{vs:List D}(H:JQ P (env a) h l=G vs){w:am}(hs:Je T w h):
  (results fn a.tmps).run P w=.ok (PN vs) w:=by
 have e:results fn a.tmps=(do let us <-fn.results.mapM (vD (env a));pure (if h:us.size=1 then us[0] else .tuple us)):=by
  have e1:(fun x:ResultVar=>match x with|.tmp t=>(pure (a.tmps.getD t undef):Sem D)|.cell x t=>do loadVar t (<-asAddr (a.tmps.getD x undef)))=vD (env a):=by
   funext x
   cases x<;>rfl
  rw[<-e1];rfl
 rw[e,hl];refine nj (T:=T) _ h _ ?_ w hs;rw[JP,ch,map_eq_pure_bind,JP,ib l vs H];show G _=_
 congr 1
 match vs with
 | []=>rfl
 | [v]=>rfl
 | v :: u :: l=>simp[PN]
end
theorem NU(args:Array D)(k:Nat):env { tmps:=args++cx k undef,defers:=[] } = Ot args.toList 0:=by
 have key:∀(l:List D) (j t:Nat),Ot l j t=if j<=t then (l[t-j]?).getD undef else undef:=by
  intro l
  induction l with
  | nil=>intro j t;simp[Ot]
  | cons v l ih=>
   intro j t;simp only[Ot,Gz];by_cases h:t=j
   .subst h;simp
   .rw[if_neg h,ih];by_cases h':j<=t
    .have e:t-j=(t-(j+1))+1:=gX;rw[if_pos gX,if_pos h',e];simp
    .rw[if_neg gX,if_neg h']
 funext t
 rw[key];simp only[env,Nat.zero_le,if_true,Nat.sub_zero,bG,Array.getElem?_append,b5];by_cases h:t<args.size
 .rw[if_pos h]
 .rw[if_neg h,b1 (by omega:args.size<=t)];by_cases h2:t-args.size<k
  .simp[h2]
  .simp[h2]
theorem Zc.Kb{T:am}{f:FuncId}{fn:Func}{c:Code}{l:List ResultVar}{args:Array D}(hf:P.funcs[f]? = G fn)(hb:fn.body=G c)(hl:fn.results=l.toArray)(hn:cP args.size fn.ntmps=true)(H:VS P fn.ntmps T c (fun F h'=>Ws P l F Q h') (fun _ _ _=>False) (fun F h'=>Ws P l F Q h') (Ot args.toList 0) h):
  Zc P T f args h Q:=by
 intro w hs;refine calls_of_wp hf hb (Code.wp_mono (fun e a w hp=>?_) (H _ w ?_ rfl (NU _ _) hs))
 .obtain⟨q1,q2,h',q3,q4⟩:=hp;have key:Ws P l (env a) Q h'->∃v,(results fn a.tmps).run P w=.ok v w/\∃v' NS,Ending.returned v=.returned v'/\Je T w NS/\Q v' NS:=by
   intro hr;unfold Ws at hr;split at hr
   .rename_i vs ic;exact⟨_,MN hl ic q3,_,h',rfl,q3,hr⟩
   .exact hr.elim
  cases e with
  | normal=>exact⟨q2,key q4⟩
  | ret=>exact⟨q2,key q4⟩
  | _=>exact q4.elim
 .have:=Nat.le_of_ble_eq_true hn;simp only[Array.size_append,Array.size_replicate];omega
set_option linter.all false
def tz(P:aa)(t:O):Option (List D):=((P.info? t).bind (·.zero)).map fun v=>v.cells.toList
def tn(P:aa)(t:O):Option Nat:=(P.info? t).map (·.size)
def tb(P:aa)(t:O):Option Nat:=(P.info? t).map (·.bytes)
def ta(P:aa)(t:O):Option Bool:=(P.underlying t).map fun|.struct _=>true|.array _ _=>true|_=>false
def tf(P:aa)(t:O)(i:Nat):Option Nat:=
 match P.underlying t with
 | some (.struct fs)=>(fs[i]?).bind fun f=>match tn P f.type with
  | some (_+1)=>G f.offset
  | _=>U
 | _=>U
def YO(P:aa)(t:O):Option (Nat × O):=match P.underlying t with|some (.array n e)=>G (n,e)|_=>U
def Js(P:aa)(t:O):Option O:=match P.underlying t with|some (.slice e)=>G e|_=>U
def PO(P:aa)(t:O):Option (List (Nat × Nat)):=match P.underlying t with|some (.struct fs)=>fs.toList.mapM (fun f=>(tn P f.type).map fun n=>(f.offset,n))|_=>U
def tfl(P:aa)(t:O)(i:Nat):Option (Nat × O):=match P.underlying t with|some (.struct fs)=>(fs[i]?).map fun f=>(f.offset,f.type)|_=>U
def Uf(P:aa)(t:O):Bool:=match P.underlying t with|some .string=>true|_=>false
def HJ(P:aa)(t:O):Option IntKind:=match P.underlying t with|some (.int k)=>G k|_=>U
def goes(P:aa)(f:FuncId):Bool:=match P.funcs[f]? with|some fn=>!(fn.name == "runtime.NumGoroutine")&&fn.body.isSome|none=>false
def cl:D->List D
 | aI cs=>cs.toList
 | v=>[v]
theorem Oz(v:D):(cl v).toArray=v.cells:=by cases v<;>rfl
section
variable (P:aa) (T:am)
def GB(c a b:D)(K:D->Hp->Prop)(h:Hp):Prop:=
 match c with|al t=>K (if t then a else b) h|_=>False
def nk(z:Option (List D))(t:O)(K:D->Hp->Prop)(h:Hp):Prop:=
 match z with|some l=>K (J (G ⟨h.size,0,U⟩)) (h.push (Y l.toArray t))|none=>False
def rd(h:Hp)(a:Addr)(n:Nat):Option (List D):=
 match h[a.block]? with
 | some (Y c _ _)=>if a.spot=U/\a.off+n<=c.size then G ((c.toList.drop a.off).take n) else U
 | _=>U
def LN(x:Option D)(K:D->Hp->Prop)(h:Hp):Prop:=match x with|some v=>K v h|none=>False
def Kz(x:Option (List D))(K:D->Hp->Prop)(h:Hp):Prop:=match x with|some l=>K (aI l.toArray) h|none=>False
def OB(s:Option Bool)(n:Option Nat)(p:D)(K:D->Hp->Prop)(h:Hp):Prop:=
 match p with
 | J (G a)=>match s,n with
  | some false,_=>LN (hc h a) K h
  | some true,G n=>Kz (rd h a n) K h
  | _,_=>False
 | _=>False
def YJ:List D->Nat->List D->List D
 | l,_,[]=>l
 | [],_,_ :: _=>[]
 | _ :: l,0,v :: vs=>v :: YJ l 0 vs
 | x :: l,n+1,v :: vs=>x :: YJ l n (v :: vs)
def wr(h:Hp)(a:Addr)(vs:List D):Option Hp:=
 match h[a.block]? with
 | some (Y c e (lo,hi))=>if a.spot=U/\a.off+(M vs)<=c.size/\hi<=lo/\vs.all Yq=true then G (h.setIfInBounds a.block (Y (YJ c.toList a.off vs).toArray e (lo,hi))) else U
 | _=>U
def Jb(h:Hp)(a:Addr)(v:D):Option Hp:=
 match h[a.block]? with
 | some (Y c e (lo,hi))=>if a.spot=U/\a.off<c.size/\hi<=lo/\Yq v=true then G (h.setIfInBounds a.block (Y (c.setIfInBounds a.off v) e (lo,hi))) else U
 | _=>U
def eH(x:Option Hp)(K:D->Hp->Prop):Prop:=match x with|some h'=>K undef h'|none=>False
def UZ(n:Option Nat)(p v:D)(K:D->Hp->Prop)(h:Hp):Prop:=
 match p,n with
 | J (G a),G n=>
  if n=(cl v).length then
   match v with
   | aI cs=>eH (wr h a cs.toList) K
   | v=>eH (Jb h a v) K
  else False
 | _,_=>False
def PP(f:Option Nat)(p:D)(K:D->Hp->Prop)(h:Hp):Prop:=
 match f,p with
 | some o,J (G a)=>K (J (G (a.add o))) h
 | _,_=>False
def Y1(op:BinOp)(t:O)(x y:a5)(a b:D)(K:D->Hp->Prop)(h:Hp):Prop:=
 hw P (do eqGuard op t x y a b;binOp op t a b) K h
def vUn(op:UnOp)(a:D)(K:D->Hp->Prop)(h:Hp):Prop:=hw P (Op.unary op a) K h
def V7(src dst:O)(a:D)(K:D->Hp->Prop)(h:Hp):Prop:=hw P (convert src dst a) K h
def vIx(arr:Option (Nat × O))(sl:Option O)(n:O->Option Nat)(p i:D)(K:D->Hp->Prop)(h:Hp):Prop:=
 match i with
 | .int _ i=>(match arr,sl,p with
  | some (len,e),U,J (G a)=>(match n e with
   | some n=>if 0<=i/\i<(len:Int) then K (J (G (a.add (i.toNat*n)))) h else False
   | none=>False)
  | none,G e,Z (G a) len _=>(match n e with
   | some n=>if 0<=i/\i<(len:Int) then K (J (G (a.add (i.toNat*n)))) h else False
   | none=>False)
  | _,_,_=>False)
 | _=>False
def UF(v:D)(i:Nat)(K:D->Hp->Prop)(h:Hp):Prop:=
 match v with|.tuple vs=>LN (vs[i]?) K h|_=>False
def AG(v:D)(K:D->Hp->Prop)(h:Hp):Prop:=
 match v with|J (G a)=>K (J (G a)) h|.func (.func f) x y=>K (.func (.func f) x y) h|_=>False
def OC(f:D)(args:List D)(K:D->Hp->Prop)(h:Hp):Prop:=
 match f with
 | .func (.func f) first captured=>if goes P f=true then Zc P T f (first.toList++args++captured.toList).toArray h K
  else hw P (callFunc f (first.toList++args++captured.toList).toArray) (XA P T K) h
 | _=>False
def Sa(b:Builtin)(ts:Array O)(ty:O)(cs:Array Bool)(args:List D)(K:D->Hp->Prop)(h:Hp):Prop:=
 hw P (builtin b ts ty cs args.toArray) (XA P T K) h
def ie(F:Env):List a5->List D
 | []=>[]
 | x :: l=>ev F x :: ie F l
theorem FI(F:Env)(l:List a5):ie F l=l.map (ev F):=by induction l with|nil=>rfl|cons x l ih=>simp[ie,ih]
def nth{α:Type}:List α->Nat->Option α
 | [],_=>U
 | x :: _,0=>G x
 | _ :: l,n+1=>nth l n
def OD(n:Nat)(i:Nat):Option (Nat × Nat):=G (i*n,n)
def UG(place:Nat->Option (Nat × Nat)):List D->List (Nat × D)->Option (List D)
 | cs,[]=>G cs
 | cs,(i,v) :: l=>match place i with
  | some (o,s)=>if (cl v).length=s/\o+s<=(M cs) then UG place (YJ cs o (cl v)) l else U
  | none=>U
def AH(F:Env):List (Nat × a5)->List (Nat × D)
 | []=>[]
 | (i,x) :: l=>(i,ev F x) :: AH F l
def Kc(n:Option Nat)(z:List D)(parts:List (Nat × D))(K:D->Hp->Prop)(h:Hp):Prop:=
 match n with|some n=>Kz (UG (OD n) z parts) K h|none=>False
def PQ(z:Option (List D))(pl:Option (List (Nat × Nat)))(arr:Option (Nat × O))(n:O->Option Nat)(parts:List (Nat × D))(K:D->Hp->Prop)(h:Hp):Prop:=
 match z,pl,arr with
 | some z,G pl,U=>Kz (UG (nth pl) z parts) K h
 | some z,U,G (_,e)=>Kc (n e) z parts K h
 | _,_,_=>False
def Jl:Nat->List D->List D
 | 0,_=>[]
 | n+1,z=>z++Jl n z
def AI:Nat->List (Nat × D)->Option (List D)
 | _,[]=>G []
 | k,(i,v) :: l=>if i=k/\Yq v=true then (AI (k+1) l).map (v :: ·) else U
def eI(e:O)(len:Nat)(x:Option (List D))(K:D->Hp->Prop)(h:Hp):Prop:=
 match x with|some l=>K (Z (G ⟨h.size,0,U⟩) len len) (h.push (Y l.toArray e))|none=>False
def Kd(n len:Nat)(z:List D)(parts:List (Nat × D)):Option (List D):=
 if n=1/\(M parts)=len then AI 0 parts else UG (OD n) (Jl len z) parts
def Ru(e:O)(n:Option Nat)(z:Option (List D))(len:Nat)(parts:List (Nat × D))(K:D->Hp->Prop)(h:Hp):Prop:=
 match n,z with
 | some n,G z=>if (M z)=n/\len*n<=16777216 then eI e len (Kd n len z parts) K h else False
 | _,_=>False
def OE(e:Option O)(n:O->Option Nat)(z:O->Option (List D))(len:Nat)(parts:List (Nat × D))(K:D->Hp->Prop)(h:Hp):Prop:=
 match e with
 | some e=>Ru e (n e) (z e) len parts K h
 | none=>False
def MO(a:Option Bool)(n:Option Nat)(cs:List D)(o:Nat)(K:D->Hp->Prop)(h:Hp):Prop:=
 match a,n with
 | some true,G n=>K (aI ((cs.drop o).take n).toArray) h
 | some false,_=>LN (nth cs o) K h
 | _,_=>False
def np(f:Option (Nat × O))(a:O->Option Bool)(n:O->Option Nat)(x:D)(K:D->Hp->Prop)(h:Hp):Prop:=
 match f,x with
 | some (o,t),aI cs=>MO (a t) (n t) cs.toList o K h
 | _,_=>False
def eJ(m:Option Nat)(a:Option Bool)(len:Nat)(cs:List D)(i:Int)(K:D->Hp->Prop)(h:Hp):Prop:=
 match m with|some m=>if 0<=i/\i<(len:Int) then MO a (G m) cs (i.toNat*m) K h else False|none=>False
def AJ(arr:Option (Nat × O))(str:Bool)(a:O->Option Bool)(n:O->Option Nat)(x i:D)(K:D->Hp->Prop)(h:Hp):Prop:=
 match i with
 | .int _ i=>(match arr,str,x with
  | some (len,e),false,aI cs=>eJ (n e) (a e) len cs.toList i K h
  | none,true,.string s=>if 0<=i/\i<(s.size:Int) then K (.int .u8 ((s.data.toList.getD i.toNat 0).toNat:Nat)) h else False
  | _,_,_=>False)
 | _=>False
def sb(x:Option D)(d y:Nat):Option Nat:=
 match x with
 | none=>G d
 | some (.int _ i)=>if 0<=i/\i<=(y:Int) then G i.toNat else U
 | _=>U
def eK(F:Env):Option a5->Option D
 | none=>U
 | some x=>G (ev F x)
def Sb(n:Option Nat)(a:Option Addr)(len cap:Nat)(lo hi:Option D)(K:D->Hp->Prop)(h:Hp):Prop:=
 match n,sb hi len cap with
 | some n,G b=>(match sb lo 0 b with
  | some l=>K (Z (if cap=l then a else a.map (·.add (l*n))) (b-l) (cap-l)) h
  | none=>False)
 | _,_=>False
def HK(arr:Option (Nat × O))(sl:Option O)(str:Bool)(n:O->Option Nat)(x:D)(lo hi mx:Option D)(K:D->Hp->Prop)(h:Hp):Prop:=
 match mx,x,arr,sl,str with
 | some mv,Z a len cap,U,G e,_=>(match hi,sb (G mv) 0 cap with
  | some hv,G m=>Sb (n e) a len m lo (G hv) K h
  | _,_=>False)
 | none,Z a len cap,U,G e,_=>Sb (n e) a len cap lo hi K h
 | none,J (G a),G (len,e),U,_=>Sb (n e) (G a) len len lo hi K h
 | none,.string s,U,U,true=>(match sb hi s.size s.size with
  | some b=>(match sb lo 0 b with|some l=>K (.string (s.extract l b)) h|none=>False)
  | none=>False)
 | _,_,_,_,_=>False
def vE(e:O)(n:Option Nat)(by':Option Nat)(z:Option (List D))(l c:Int)(K:D->Hp->Prop)(h:Hp):Prop:=
 match n,by',z with
 | some n,G bytes,G z=>if (M z)=n/\0<=l/\l<=c/\c<=9223372036854775807/\(bytes:Int)*c<=281474976710656 then K (Z (G ⟨h.size,0,U⟩) l.toNat c.toNat) (h.push (Y (Jl c.toNat z).toArray e)) else False
 | _,_,_=>False
def vMk(e:Option O)(n by':O->Option Nat)(z:O->Option (List D))(l c:D)(K:D->Hp->Prop)(h:Hp):Prop:=
 match e,l,c with
 | some e,.int _ l,.int _ c=>vE e (n e) (by' e) (z e) l c K h
 | _,_,_=>False
def Vc(op:Op)(ty:O)(K:D->Hp->Prop)(F:Env)(h:Hp):Prop:=
 match op with
 | .move x|.assign x=>K (ev F x) h
 | .pick c a b=>GB (ev F c) (ev F a) (ev F b) K h
 | .alloc e=>nk (tz P e) e K h
 | .box e x=>nk (G (cl (ev F x))) e K h
 | .load t a=>OB (ta P t) (tn P t) (ev F a) K h
 | .store t a x=>UZ (tn P t) (ev F a) (ev F x) K h
 | .fieldAddr t x i=>PP (tf P t i) (ev F x) K h
 | .indexAddr t x i=>vIx (YO P t) (Js P t) (tn P) (ev F x) (ev F i) K h
 | .nilCheck x=>AG (ev F x) K h
 | .binOp op t x y _=>Y1 P op t x y (ev F x) (ev F y) K h
 | .unOp op _ x=>vUn P op (ev F x) K h
 | .convert s d x=>V7 P s d (ev F x) K h
 | .extract x i=>UF (ev F x) i K h
 | .makeFunc fn first captured=>K (.func fn (ie F first.toList).toArray (ie F captured.toList).toArray) h
 | .call ⟨.value f,args,_⟩=>OC P T (ev F f) (ie F args.toList) K h
 | .call ⟨.builtin b,args,ts⟩=>Sa P T b ts ty (args.map fun|.const _=>true|_=>false) (ie F args.toList) K h
 | .build t parts=>PQ (tz P t) (PO P t) (YO P t) (tn P) (AH F parts.toList) K h
 | .buildSlice t len parts=>OE (Js P t) (tn P) (tz P) len (AH F parts.toList) K h
 | .field t x i=>np (tfl P t i) (ta P) (tn P) (ev F x) K h
 | .index t x i=>AJ (YO P t) (Uf P t) (ta P) (tn P) (ev F x) (ev F i) K h
 | .slice t x lo hi mx=>HK (YO P t) (Js P t) (Uf P t) (tn P) (ev F x) (eK F lo) (eK F hi) (eK F mx) K h
 | .makeSlice t l c=>vMk (Js P t) (tn P) (tb P) (tz P) (ev F l) (ev F c) K h
 | op=>HG P T ⟨U,op,ty, "", #[],U⟩ K F h
end
section
variable {P:aa} {T:am} {K:D->Hp->Prop} {F:Env} {h:Hp} {ty:O}
theorem AK{Q:aa->Hp->Prop}:hw P program Q h=Q P h:=rfl
theorem ZC{Q:α->Hp->Prop}(a:α):hw P (pure a) Q h=Q a h:=rfl
theorem Y2{d:TypeInfo}(hd:P.info? t=G d){Q:TypeInfo->Hp->Prop}:hw P (typeInfo t) Q h=Q d h:=by
 simp only[typeInfo];rw[Ze];simp only[program,hw];rw[hd];rfl
theorem Zv{d:TypeDesc}(hd:P.underlying t=G d){Q:TypeDesc->Hp->Prop}:hw P (underlying t) Q h=Q d h:=by
 simp only[underlying];rw[Ze];simp only[program,hw];rw[hd];rfl
theorem run_sizeOf(hn:tn P t=G n){Q:Nat->Hp->Prop}:hw P (sizeOf t) Q h=Q n h:=by
 unfold tn at hn
 cases hi:P.info? t with
 | none=>rw[hi]at hn;cases hn
 | some i=>
  rw[hi]at hn;simp only[a0,Option.some.injEq]at hn;subst hn;unfold sizeOf;rw[Ze,Y2 hi];rfl
theorem Wm{b:Bool}(hb:ta P t=G b){Q:Bool->Hp->Prop}:hw P (isAgg t) Q h=Q b h:=by
 unfold ta at hb
 cases hi:P.underlying t with
 | none=>rw[hi]at hb;cases hb
 | some d=>
  rw[hi]at hb;simp only[a0,Option.some.injEq]at hb;subst hb;unfold isAgg;rw[Ze,Zv hi]
  cases d<;>rfl
theorem addr_add(b o n:Nat):Addr.add ⟨b,o,U⟩ n=⟨b,o+n,U⟩:=by
 unfold Addr.add;split
 .rename_i h;subst h;rfl
 .rfl
theorem Rv(a:Addr)(n:Nat)(ha:a.spot=U):a.add n=⟨a.block,a.off+n,U⟩:=by
 obtain⟨b,o,s⟩:=a;simp only at ha;subst ha;exact addr_add b o n
theorem run_loadCells(a:Addr)(c:List D){Q:Array D->Hp->Prop}:∀(n i:Nat) (acc:Array D),
  (∀j,j<n->hc h (a.add (i+j))=G (c.getD j undef))->n=(M c)->Q (acc++c.toArray) h->hw P (loadCellsFrom a i n acc) Q h:=by
 induction c with
 | nil=>intro n i acc _ hn H;subst hn;simpa [loadCellsFrom,pure,hw] using H
 | cons v c ih=>
  intro n i acc hj hn H;subst hn;show hw P (load (a.add i) >>= fun v=>loadCellsFrom a (i+1) (M c) (acc.push v)) Q h;rw[Ze];refine⟨v,by simpa using hj 0 Dq,?_⟩;refine ih _ (i+1) _ (fun j AL=>?_) rfl ?_
  .have:=hj (j+1) L6;have e:i+(j+1)=i+1+j:=gX;rw[e]at this
   simpa using this
  .simpa using H
theorem AM(H:OB (ta P t) (tn P t) v K h):hw P (Instr.loadAt t v) K h:=by
 unfold OB at H;split at H
 .rename_i a;unfold Instr.loadAt;rw[Ze];show hw P (loadVar t a) K h;unfold loadVar;rw[Ze];split at H
  .rename_i hs;rw[Wm hs];unfold LN at H;split at H
   .rename_i v hv;exact⟨v,hv,H⟩
   .exact H.elim
  .rename_i n hs hn;rw[Wm hs];simp only[if_true];rw[Ze,run_sizeOf hn,Ze];unfold Kz at H;split at H
   .rename_i l hl;unfold rd at hl;split at hl
    .rename_i c e fr hb;split at hl
     .rename_i OF;obtain⟨h1,h2⟩:=OF;simp only[Option.some.injEq]at hl;subst hl;have hlen:((c.toList.drop a.off).take n).length=n:=L6;refine run_loadCells a _ n 0 #[] (fun j hj=>?_) hlen.symm (by simpa [ZC] using H);rw[Rv a _ h1];unfold hc;rw[hb];simp only[bJ,a3,if_false];rw[bK,List.getElem?_take,if_pos hj,List.getElem?_drop];have e:a.off+(0+j)=a.off+j:=gX;rw[e];simp;rw[bf gX];rfl
     .cases hl
    .cases hl
   .exact H.elim
  .exact H.elim
 .exact H.elim
theorem run_store{Q:Unit->Hp->Prop}:hw P (store a v) Q h=(Yq v=true/\(∃u,hc h a=G u)/\nf h a=false/\Q () (gY h a v)):=rfl
theorem vF{c:Array D}{fr:Nat × Nat}(hb:h[a.block]? = G (Y c e fr))(hs:a.spot=U)(v:D):
  gY h a v=h.setIfInBounds a.block (Y (c.setIfInBounds a.off v) e fr):=by
 obtain⟨ZL,AN⟩:=a4.1 hb;unfold gY;apply bb;intro i;rw[Array.getElem?_modify,av];by_cases hi:a.block=i
 .subst hi;simp[AN,hs,ZL]
 .simp[hi]
theorem Ta(l:List D)(n:Nat)(v:D)(vs:List D):YJ l n (v :: vs)=YJ (l.set n v) (n+1) vs:=by
 induction l generalizing n with
 | nil=>cases vs<;>simp[YJ]
 | cons x l ih=>
  cases n with
  | zero=>
   simp only[YJ,cd]
   cases vs with
   | nil=>simp[YJ]
   | cons u us=>simp[YJ]
  | succ n=>
   simp only[YJ,cf];rw[ih]
   cases vs with
   | nil=>simp[YJ]
   | cons u us=>simp[YJ]
theorem Yt{lo hi:Nat}{Q:Unit->Hp->Prop}(hs:a.spot=U)(Znc:hi<=lo):∀(vs:List D) (i:Nat) (h:Hp) (c:Array D),
  h[a.block]? = G (Y c e (lo,hi))->a.off+i+(M vs)<=c.size->vs.all Yq=true ->
  Q () (h.setIfInBounds a.block (Y (YJ c.toList (a.off+i) vs).toArray e (lo,hi)))->hw P (storeCells a vs i) Q h
 | [],i,h,c,hb,_,_,H=>by
  have e:h.setIfInBounds a.block (Y (YJ c.toList (a.off+i) []).toArray e (lo,hi))=h:=by
   have ZL:=(a4.1 hb).1;apply bb;intro j;rw[av];by_cases hj:a.block=j
   .subst hj;rw[if_pos rfl,if_pos ZL,hb];simp[YJ]
   .simp[hj]
  rw[e]at H;exact H
 | v :: vs,i,h,c,hb,hlen,Xz,H=>by
  simp only[bw,aw]at Xz;simp only[be]at hlen;show hw P (store (a.add i) v >>= fun _=>storeCells a vs (i+1)) Q h;rw[Ze,run_store,Rv a i hs];have ZL:a.block<h.size:=(a4.1 hb).1;refine⟨Xz.1,?_,?_,?_⟩
  .unfold hc;simp only[hb];refine⟨c[a.off+i]'gX,?_⟩;simp only[bJ,a3,if_false];rw[bf gX]
  .unfold nf;simp only[hb];simp;omega
  .have Jc:h[({ block:=a.block,off:=a.off+i,spot:=U }:Addr).block]? = G (Y c e (lo,hi)):=hb;rw[vF Jc rfl];have KA:(h.setIfInBounds a.block (Y (c.setIfInBounds (a.off+i) v) e (lo,hi)))[a.block]? = G (Y (c.setIfInBounds (a.off+i) v) e (lo,hi)):=by
    simp[ZL]
   refine Yt hs Znc vs (i+1) _ _ KA L6 Xz.2 ?_;have e2:(h.setIfInBounds a.block (Y (c.setIfInBounds (a.off+i) v) e (lo,hi))).setIfInBounds a.block
     (Y (YJ (c.setIfInBounds (a.off+i) v).toList (a.off+(i+1)) vs).toArray e (lo,hi)) =
     h.setIfInBounds a.block (Y (YJ c.toList (a.off+i) (v :: vs)).toArray e (lo,hi)):=by
    rw[Ta,bc];rw[Array.setIfInBounds_setIfInBounds,cc]
   rw[e2];exact H
theorem Dt{p:D}(H:UZ (tn P t) p v K h):hw P (Instr.storeAt t p v) (fun _ h=>K undef h) h:=by
 unfold UZ at H;split at H
 .rename_i a n hn;unfold Instr.storeAt;rw[Ze];show hw P (storeVar t a v) _ h;unfold storeVar;split at H
  .rename_i hlen;have vG:v.cells.size=n:=by rw[<-Oz,hlen];simp
   rw[Ze,run_sizeOf hn];simp only[vG,ne_eq,not_true_eq_false,if_false];show hw P (storeCells a v.cells.toList) _ h;split at H
   .rename_i cs;unfold eH at H;split at H
    .rename_i h' hh;unfold wr at hh;split at hh
     .rename_i c e lo hi hb;split at hh
      .rename_i ZbY;obtain⟨h1,h2,h3,h4⟩:=ZbY;simp only[Option.some.injEq]at hh;subst hh;exact Yt h1 h3 cs.toList 0 h c hb h2 h4 H
      .cases hh
     .cases hh
    .exact H.elim
   .rename_i hna;have FJ:v.cells.toList=[v]:=by cases v<;>first|rfl|exact (hna _ rfl).elim
    rw[FJ];unfold eH at H;split at H
    .rename_i h' hh;unfold Jb at hh;split at hh
     .rename_i c e lo hi hb;split at hh
      .rename_i ZbY;obtain⟨h1,h2,h3,h4⟩:=ZbY;simp only[Option.some.injEq]at hh;subst hh;refine Yt h1 h3 [v] 0 h c hb L6 (by simpa using h4) ?_;have e1:(YJ c.toList (a.off+0) [v]).toArray=c.setIfInBounds a.off v:=by
        rw[Ta,ck];apply bU.1;rw[bc]
        cases h9:(c.toList.set a.off v)<;>simp[YJ]
       rw[e1];exact H
      .cases hh
     .cases hh
    .exact H.elim
  .exact H.elim
 .exact H.elim
theorem Du{p:D}(H:PP (tf P t i) p K h):hw P (Instr.fieldAt t p i) K h:=by
 unfold PP at H;split at H
 .rename_i o a hf;unfold tf at hf;split at hf
  .rename_i fs hu;unfold Instr.fieldAt;rw[Ze,Zv hu]
   cases Dv:fs[i]? with
   | none=>rw[Dv]at hf;cases hf
   | some f=>
    rw[Dv]at hf;simp only[ao]at hf;split at hf
    .rename_i m hm;simp only[Option.some.injEq]at hf;subst hf;simp only[Dv];simp only[Instr.sureAddr,fieldPlace,Ze,ZC,run_sizeOf hm,if_neg (Nat.succ_ne_zero m)];exact H
    .cases hf
  .cases hf
 .exact H.elim
theorem nq{p i:D}(H:vIx (YO P t) (Js P t) (tn P) p i K h):hw P (Instr.indexAt t p i) K h:=by
 unfold vIx at H;split at H
 .rename_i k i;split at H
  .rename_i len e a ha hs;split at H
   .rename_i n hn;unfold YO at ha;split at ha
    .rename_i m e' hu;simp only[Option.some.injEq,Prod.mk.injEq]at ha;obtain⟨rfl,rfl⟩:=ha;split at H
     .rename_i hb;simp only[Instr.indexAt,asIntOf,Instr.sureAddr,Ze,ZC,Zv hu,if_pos hb,run_sizeOf hn];exact H
     .exact H.elim
    .cases ha
   .exact H.elim
  .rename_i e a len cap ha hs;split at H
   .rename_i n hn;unfold Js at hs;split at hs
    .rename_i e' hu;simp only[Option.some.injEq]at hs;subst hs;split at H
     .rename_i hb;simp only[Instr.indexAt,asIntOf,Instr.sureAddr,Ze,ZC,Zv hu,if_pos hb,run_sizeOf hn];exact H
     .exact H.elim
    .cases hs
   .exact H.elim
  .exact H.elim
 .exact H.elim
theorem HM(H:UF v i K h):hw P (Instr.extract v i) K h:=by
 unfold UF at H;split at H
 .rename_i vs;unfold LN at H;split at H
  .rename_i v hv;simp only[Instr.extract,hv];exact H
  .exact H.elim
 .exact H.elim
theorem AO{f:D}{c:Call}{args:List D}(hc:c.callee=.value x)(hf:ev F x=f)(ha:(c.args.map (ev F)).toList=args)(H:OC P T f args K h):
  hw P (do let d <-resolve (ev F) c ty;invoke d.target d.args) (XA P T K) h:=by
 unfold OC at H;split at H
 .rename_i f first captured;have e:first++c.args.map (ev F)++captured=(first.toList++args++captured.toList).toArray:=by rw[<-ha];simp
  by_cases hg:goes P f=true
  case neg=>
   rw[if_neg hg]at H;simp only[resolve,hc,hf,Deferred.ofValue,Ze,ZC,invoke];rw[e];exact H
  rw[if_pos hg]at H;unfold goes at hg;split at hg
  .rename_i fn nr;simp only[aw,Bool.not_eq_true']at hg;have ZfG:fn.body.isNone=false:=by
    cases hb:fn.body with
    | none=>rw[hb]at hg;simp at hg
    | some _=>rfl
   simp only[resolve,hc,hf,Deferred.ofValue,Ze,ZC,invoke,callFunc,AK,nr,hg.1,a3,if_false,ZfG];rw[e];exact H
  .cases hg
 .exact H.elim
theorem Ke{z:List D}(hz:tz P t=G z):∃v,v.cells=z.toArray/\∀{Q:D->Hp->Prop} {h:Hp},hw P (zeroValue t) Q h=Q v h:=by
 unfold tz at hz
 cases hi:P.info? t with
 | none=>rw[hi]at hz;cases hz
 | some i=>
  rw[hi]at hz
  cases NV:i.zero with
  | none=>rw[ao,NV]at hz;cases hz
  | some v=>
   rw[ao,NV]at hz;simp only[a0,Option.some.injEq]at hz;refine⟨v,by rw[<-hz,b8],fun {Q h}=>?_⟩;unfold zeroValue;rw[Ze,Y2 hi];simp only[NV];rfl
theorem GC(off:Nat):∀(vs:List D) (k:Nat) (cells:Array D),
  ((vs.zipIdx k).foldl (fun (cs:Array D) (x:D × Nat)=>cs.setIfInBounds (off+x.2) x.1) cells).toList=YJ cells.toList (off+k) vs
 | [],k,cells=>by cases h:cells.toList<;>simp[YJ,h]
 | v :: vs,k,cells=>by
  rw[List.zipIdx_cons,List.foldl_cons,GC off vs (k+1),Ta,bc,cc]
theorem Kf:∀(parts:List (Nat × D)) (cs:List D) (nt:List D),UG place cs parts=G nt->Instr.fill place cs.toArray parts=G nt.toArray
 | [],cs,nt,h=>by simp only[UG,Option.some.injEq]at h;subst h;rfl
 | (i,v) :: l,cs,nt,h=>by
  unfold UG at h;unfold Instr.fill
  cases hp:place i with
  | none=>rw[hp]at h;cases h
  | some os=>
   obtain⟨o,s⟩:=os;rw[hp]at h;simp only at h ⊢;split at h
   .rename_i hc;have vG:v.cells.size=s:=by rw[<-Oz];simpa using hc.1
    have OF:¬((decide (v.cells.size≠s)||decide (o+v.cells.size>cs.toArray.size))=true):=by
     rw[vG];simp;omega
    rw[if_neg OF];have e:(v.cells.zipIdx.foldl (fun (cs:Array D) (x:D × Nat)=>cs.setIfInBounds (o+x.2) x.1) cs.toArray)=(YJ cs o (cl v)).toArray:=by
     apply bU.1;have:=GC o (cl v) 0 cs.toArray;rw[<-Oz,cS,<-Array.foldl_toList];have e3:(cl v).mapIdx (fun i a=>(a,i))=(cl v).zipIdx 0:=by
      apply List.ext_getElem?;intro i;simp[List.getElem?_zipIdx]
     simpa [cS,e3] using this
    have key:=Kf l _ _ h;rw[<-e]at key;exact key
   .cases h
theorem YE(l:List α)(n:Nat):nth l n=l[n]?:=by
 induction l generalizing n with
 | nil=>simp[nth]
 | cons x l ih=>cases n<;>simp[nth,ih]
theorem eO(F:Env)(l:List (Nat × a5)):AH F l=l.map fun x=>(x.1,ev F x.2):=by
 induction l with
 | nil=>rfl
 | cons x l ih=>obtain⟨i,x⟩:=x;simp[AH,ih]
theorem run_places:∀(l:List Field) (Q:List (Nat × Nat)->Hp->Prop) (pl:List (Nat × Nat)),l.mapM (fun f:Field=>(tn P f.type).map fun n=>(f.offset,n))=G pl ->
  Q pl h->hw P (l.mapM fun f:Field=>do pure (f.offset,<-sizeOf f.type)) Q h
 | [],Q,pl,hp,H=>by
  simp only[cA,pure,Option.some.injEq]at hp;subst hp;exact H
 | f :: l,Q,pl,hp,H=>by
  rw[bH]at hp
  cases hn:tn P f.type with
  | none=>rw[hn]at hp;cases hp
  | some n=>
   rw[hn]at hp
   cases hl:l.mapM (fun f:Field=>(tn P f.type).map fun n=>(f.offset,n)) with
   | none=>simp[hl]at hp
   | some pl'=>
    simp[hl]at hp;subst hp;rw[bH,Ze,Ze,run_sizeOf hn];show hw P (_ >>= _) Q h;rw[Ze];exact run_places l _ pl' hl H
theorem Dw{parts:Array (Nat × a5)}(H:PQ (tz P t) (PO P t) (YO P t) (tn P) (AH F parts.toList) K h):hw P (Instr.build t (parts.map fun (i,x)=>(i,ev F x))) K h:=by
 have e1:(parts.map fun (i,x)=>(i,ev F x)).toList=AH F parts.toList:=by rw[eO,bp]
 unfold Instr.build;rw[e1];unfold PQ at H;split at H
 .rename_i z pl hz KB _;obtain⟨v,hv,ZbZ⟩:=Ke hz;rw[Ze,ZbZ,Ze,hv];unfold PO at KB;split at KB
  .rename_i fs hu;rw[Zv hu];simp only;rw[Ze,<-b8 (xs:=fs),ch,map_eq_pure_bind,Ze];refine run_places fs.toList _ pl KB ?_;unfold Kz at H;split at H
   .rename_i cs YR;have e2:(fun i=>pl.toArray[i]?)=nth pl:=by funext i;rw[YE];simp
    have:=Kf _ _ _ YR;rw[<-e2]at this;simp only[ZC,this];exact H
   .exact H.elim
  .cases KB
 .rename_i z n e hz _ ha;obtain⟨v,hv,ZbZ⟩:=Ke hz;rw[Ze,ZbZ,Ze,hv];unfold YO at ha;split at ha
  .rename_i n' e' hu;simp only[Option.some.injEq,Prod.mk.injEq]at ha;obtain⟨rfl,rfl⟩:=ha;rw[Zv hu];simp only;unfold Kc at H;split at H
   .rename_i m hm;rw[Ze,run_sizeOf hm];unfold Kz at H;split at H
    .rename_i cs YR;have:=Kf _ _ _ YR;have e2:(fun i=>G (i*m,m))=OD m:=rfl;rw[e2];simp only[this];exact H
    .exact H.elim
   .exact H.elim
  .cases ha
 .exact H.elim
theorem eQ(z:List D)(hz:z≠[]):∀(len:Nat),(bP (len*(M z))).map (fun j=>z.toArray[j%z.toArray.size]!)=(Jl len z).toArray:=by
 have KC:0<(M z):=bD.2 hz;have hlen:∀len,(Jl len z).length=len*(M z):=by
  intro len
  induction len with
  | zero=>simp[Jl]
  | succ n ih=>simp[Jl,ih,bk,cn]
 have AN:∀len j,j<len*(M z)->(Jl len z)[j]? = z[j%(M z)]?:=by
  intro len
  induction len with
  | zero=>intro j hj;simp at hj
  | succ n ih=>
   intro j hj;simp only[Jl];by_cases AL:j<(M z)
   .rw[bL AL,a8 AL]
   .rw[List.getElem?_append_right gX,ih (j-(M z)) (by rw[bk]at hj;omega)];rw[Nat.mod_eq_sub_mod (by omega:j ≥ (M z))]
 intro len;apply bb;intro j;by_cases hj:j<len*(M z)
 .have Znd:j%(M z)<(M z):=Nat.mod_lt _ KC;simp[hj,AN len j hj,Znd]
 .have h2:(Jl len z)[j]? = U:=List.getElem?_eq_none (by rw[hlen];omega);simp[hj,h2]
theorem Sx(z:List D):∀n,(Jl n z).length=n*(M z):=by
 intro len
 induction len with
 | zero=>simp[Jl]
 | succ n ih=>simp[Jl,ih,bk,cn]
theorem GD:∀(parts:List (Nat × D)) (pre vs rest:List D),AI (M pre) parts=G vs->(M rest)=(M parts)->UG (OD 1) (pre++rest) parts=G (pre++vs)
 | [],pre,vs,rest,h,hl=>by
  simp only[AI,Option.some.injEq]at h;subst h;have:rest=[]:=a1 (by simpa using hl);simp[UG,this]
 | (i,v) :: l,pre,vs,rest,h,hl=>by
  unfold AI at h;split at h
  .rename_i hc;obtain⟨rfl,hv⟩:=hc
   cases hs:AI ((M pre)+1) l with
   | none=>rw[hs]at h;cases h
   | some us=>
    rw[hs]at h;simp only[a0,Option.some.injEq]at h;subst h
    cases rest with
    | nil=>simp at hl
    | cons r rest=>
     have Jm:cl v=[v]:=by cases v<;>first|rfl|(simp[Yq]at hv)
     have e1:YJ (pre++r :: rest) (M pre) [v]=(pre++[v])++rest:=by
      rw[Ta];simp[YJ]
     have ih:=GD l (pre++[v]) us rest (by simpa using hs) (by simpa using hl);simp only[UG,OD,Jm,Nat.mul_one,be,cy,bh];rw[if_pos Dq,e1,ih];simp
  .cases h
theorem HN{parts:Array (Nat × a5)}(H:OE (Js P t) (tn P) (tz P) len (AH F parts.toList) K h):hw P (Instr.buildSlice t len (parts.map fun (i,x)=>(i,ev F x))) K h:=by
 have e1:(parts.map fun (i,x)=>(i,ev F x)).toList=AH F parts.toList:=by rw[eO,bp]
 unfold Instr.buildSlice;rw[e1];unfold OE at H;split at H
 .rename_i e he;unfold Js at he;split at he
  .rename_i e' hu;simp only[Option.some.injEq]at he;subst he;unfold Ru at H;split at H
   .rename_i n z hn hz;split at H
    .rename_i hc;obtain⟨Dx,hle⟩:=hc;unfold eI at H;split at H
     .rename_i l hl;have ZfH:UG (OD n) (Jl len z) (AH F parts.toList)=G l:=by
       unfold Kd at hl;split at hl
       .rename_i hc;obtain⟨rfl,KB⟩:=hc;have:=GD (AH F parts.toList) [] l (Jl len z) hl (by rw[Sx,Dx,KB,Nat.mul_one])
        simpa using this
       .exact hl
      rw[Ze,Zv hu];simp only;rw[Ze,run_sizeOf hn,if_neg gX];have fin:∀z':Array D,(bP (len*n)).map (fun j=>z'[j%z'.size]!)=(Jl len z).toArray->hw P (match Instr.fill (fun i=>G (i*n,n)) ((bP (len*n)).map (fun j=>z'[j%z'.size]!)) (AH F parts.toList) with
        | some cells=>do
         let a <-newRow e' cells
         pure (Value.slice (G a) len len)
        | x=>stuck "buildSlice: a part of the wrong size") K h:=by
       intro z' FK;have:=Kf _ _ _ ZfH;have e2:(fun i=>G (i*n,n))=OD n:=rfl;rw[e2,FK];simp only[this];exact H
      split
      .rename_i h0;refine fin #[] ?_;have:(Jl len z).length=0:=by rw[Sx,Dx,h0]
       rw[a1 this,h0];simp
      .rename_i h0;obtain⟨v,hv,hr⟩:=Ke hz;rw[Ze,hr];refine fin v.cells ?_;have:z≠[]:=by intro e;subst e;simp at Dx;subst Dx;simp at h0
       rw[hv,<-Dx];exact eQ z this len
     .exact H.elim
    .exact H.elim
   .exact H.elim
  .cases he
 .exact H.elim
theorem KD{cs:Array D}(H:MO (ta P t) (tn P t) cs.toList o K h):hw P (part t cs o) K h:=by
 unfold MO at H;unfold part;rw[Ze];split at H
 .rename_i n ha hn;rw[Wm ha,if_pos rfl,Ze,run_sizeOf hn];have e:(cs.extract o (o+n))=((cs.toList.drop o).take n).toArray:=by
   apply bU.1;simp[List.extract_eq_take_drop]
  rw[e];exact H
 .rename_i ha;rw[Wm ha,if_neg Dq];unfold LN at H;split at H
  .rename_i v hv;rw[YE]at hv;have:cs[o]? = G v:=by rw[<-b5];exact hv
   simp only[this];exact H
  .exact H.elim
 .exact H.elim
theorem ig{x:D}(H:np (tfl P t i) (ta P) (tn P) x K h):hw P (Instr.field t x i) K h:=by
 unfold np at H;split at H
 .rename_i o ft cs hf;unfold tfl at hf;split at hf
  .rename_i fs hu;unfold Instr.field;rw[Ze,Zv hu]
   cases Dv:fs[i]? with
   | none=>rw[Dv]at hf;cases hf
   | some f=>
    rw[Dv]at hf;simp only[a0,Option.some.injEq,Prod.mk.injEq]at hf;obtain⟨rfl,rfl⟩:=hf;simp only[Dv];exact KD H
  .cases hf
 .exact H.elim
theorem ii{x i:D}(H:AJ (YO P t) (Uf P t) (ta P) (tn P) x i K h):hw P (Instr.index t x i) K h:=by
 unfold AJ at H;split at H
 .rename_i k i;split at H
  .rename_i len e cs ha _;unfold YO at ha;split at ha
   .rename_i n' e' hu;simp only[Option.some.injEq,Prod.mk.injEq]at ha;obtain⟨rfl,rfl⟩:=ha;unfold eJ at H;split at H
    .rename_i m hm;split at H
     .rename_i hc;unfold Instr.index;simp only[asIntOf,Ze,ZC,Zv hu,if_pos hc,run_sizeOf hm];exact KD (by rw[hm];exact H)
     .exact H.elim
    .exact H.elim
   .cases ha
  .rename_i s _ hs;unfold Uf at hs;split at hs
   .rename_i hu;split at H
    .rename_i hc;unfold Instr.index;have ZL:i.toNat<s.size:=gX;have e:s[i.toNat]? = G s[i.toNat]:=by exact getElem?_pos s i.toNat ZL
     have e2:s.data.toList.getD i.toNat 0=s[i.toNat]:=by
      have FL:i.toNat<(M s.data.toList):=by simpa using ZL
      rw[bK,a6 FL,Option.getD_some];rfl
     simp only[asIntOf,Ze,ZC,Zv hu,if_pos hc.1,e];rw[e2]at H;exact H
    .exact H.elim
   .cases hs
  .exact H.elim
 .exact H.elim
theorem KF{x:Option D}{y:Nat}{c:BoundsCode}(hx:x=G v)(hs:sb x 0 y=G n){Q:Nat->Hp->Prop}:hw P (Instr.sliceBound v y c) Q h=Q n h:=by
 subst hx;unfold sb at hs;split at hs
 .rename_i he;cases he
 .rename_i k i he;simp only[Option.some.injEq]at he;subst he;split at hs
  .rename_i hc;simp only[Option.some.injEq]at hs;subst hs;unfold Instr.sliceBound;simp only[asIntOf,Ze,ZC,if_pos hc]
  .cases hs
 .cases hs
theorem PS{isS:Bool}{l:Nat}{hi:Option D}(hb:sb hi len cap=G b)(hl:sb lo 0 b=G l){Q:Nat × Nat × Nat->Hp->Prop}(H:Q (l,b,cap) h):hw P (Instr.sliceBounds isS len cap lo hi U) Q h:=by
 have h2:∀{c:BoundsCode},hw P (match lo with
   | some v=>do
    let l <-Instr.sliceBound v b c
    pure (l,b,cap)
   | none=>do
    let l <-pure 0
    pure (l,b,cap)) Q h:=by
  intro c
  cases lo with
  | none=>simp only[sb,Option.some.injEq]at hl;subst hl;exact H
  | some v=>
   simp only;rw[Ze,KF rfl hl];exact H
 unfold Instr.sliceBounds;rw[Ze];show hw P (pure cap) _ h;rw[ZC]
 cases hi with
 | none=>
  simp only[sb,Option.some.injEq]at hb;subst hb;exact h2
 | some v=>
  have Jc:sb (G v) 0 cap=G b:=by unfold sb at hb ⊢;cases v<;>simp at hb ⊢<;>exact hb
  simp only;rw[Ze,KF rfl Jc];exact h2
theorem Dy{isS:Bool}{l:Nat}{hv mv:D}(hm:sb (G mv) 0 cap=G m)(hb:sb (G hv) len m=G b)(hl:sb lo 0 b=G l){Q:Nat × Nat × Nat->Hp->Prop}(H:Q (l,b,m) h):hw P (Instr.sliceBounds isS len cap lo (G hv) (G mv)) Q h:=by
 have Jc:sb (G hv) 0 m=G b:=by unfold sb at hb ⊢;cases hv<;>simp at hb ⊢<;>exact hb
 unfold Instr.sliceBounds;rw[Ze];show hw P (Instr.sliceBound mv cap _) _ h;rw[KF rfl hm,Ze,KF rfl Jc]
 cases lo with
 | none=>simp only[sb,Option.some.injEq]at hl;subst hl;exact H
 | some v=>
  show hw P (Instr.sliceBound v b _ >>= _) _ h;rw[Ze,KF rfl hl];exact H
theorem ij{x:D}{lo hi mx:Option a5}(H:HK (YO P t) (Js P t) (Uf P t) (tn P) x (eK F lo) (eK F hi) (eK F mx) K h):hw P (Instr.sliceAt t x (lo.map (ev F)) (hi.map (ev F)) (mx.map (ev F))) K h:=by
 have e:∀o,eK F o=o.map (ev F):=fun o=>by cases o<;>rfl
 rw[e,e,e]at H;generalize lo.map (ev F)=lo at *;generalize hi.map (ev F)=hi at *;generalize mx.map (ev F)=mx at *;unfold HK at H;split at H
 .rename_i mv a len cap e ha hs;unfold Js at hs;split at hs
  .rename_i e' hu;simp only[Option.some.injEq]at hs;subst hs;split at H
   .rename_i hv m hm;unfold Sb at H;split at H
    .rename_i n b hn hb;split at H
     .rename_i l hl;unfold Instr.sliceAt;rw[Ze,Zv hu];simp only;unfold Instr.slice;rw[Ze,Zv hu];simp only;rw[Ze];refine Dy hm hb hl ?_;simp only[Ze,run_sizeOf hn,ZC];exact H
     .exact H.elim
    .exact H.elim
   .exact H.elim
  .cases hs
 .rename_i a len cap e ha hs;unfold Js at hs;split at hs
  .rename_i e' hu;simp only[Option.some.injEq]at hs;subst hs;unfold Sb at H;split at H
   .rename_i n b hn hb;split at H
    .rename_i l hl;unfold Instr.sliceAt;rw[Ze,Zv hu];simp only;unfold Instr.slice;rw[Ze,Zv hu];simp only;rw[Ze];refine PS hb hl ?_;simp only[Ze,run_sizeOf hn,ZC];exact H
    .exact H.elim
   .exact H.elim
  .cases hs
 .rename_i a len e ha hs;unfold YO at ha;split at ha
  .rename_i n' e' hu;simp only[Option.some.injEq,Prod.mk.injEq]at ha;obtain⟨rfl,rfl⟩:=ha;unfold Sb at H;split at H
   .rename_i n b hn hb;split at H
    .rename_i l hl;unfold Instr.sliceAt;rw[Ze,Zv hu];simp only[Instr.sureAddr,Ze,ZC];refine PS hb hl ?_;simp only[Ze,run_sizeOf hn,ZC];have e3:(if n'=l then G a else (G a).map (·.add (l*n)))=G (if n'=l then a else a.add (l*n)):=by split<;>rfl
     rw[e3]at H;exact H
    .exact H.elim
   .exact H.elim
  .cases ha
 .rename_i s ha hs mC;unfold Uf at mC;split at mC
  .rename_i hu;split at H
   .rename_i b hb;split at H
    .rename_i l hl;unfold Instr.sliceAt;rw[Ze,Zv hu];simp only;unfold Instr.slice;rw[Ze,Zv hu];simp only[bJ,a3,if_false];rw[Ze];refine PS hb hl ?_;exact H
    .exact H.elim
   .exact H.elim
  .cases mC
 .exact H.elim
theorem nu{l c:D}(H:vMk (Js P t) (tn P) (tb P) (tz P) l c K h):hw P (Instr.makeSlice t l c) K h:=by
 unfold vMk at H;split at H
 .rename_i e k l k' c he;unfold Js at he;split at he
  .rename_i e' hu;simp only[Option.some.injEq]at he;subst he;unfold vE at H;split at H
   .rename_i n bytes z hn WR hz;split at H
    .rename_i hc;obtain⟨Dx,h0,uO,ZyZ,YB⟩:=hc;obtain⟨i0,VX⟩:∃i,P.info? e'=G i:=by
      unfold tn at hn
      cases hi:P.info? e' with
      | none=>rw[hi]at hn;cases hn
      | some i=>exact⟨i,rfl⟩
     have Rw:i0.bytes=bytes:=by unfold tb at WR;rw[VX]at WR;simpa using WR
     have w1:IntKind.i64.wrap l=l:=b9 l ⟨gX,gX⟩;have w2:IntKind.i64.wrap c=c:=b9 c ⟨gX,gX⟩;have HP:¬((bytes:Int)*c>2 ^ 48):=gX;unfold Instr.makeSlice;simp only[Ze,Zv hu,asInt,asIntOf,ZC,Y2 VX,w1,w2,Rw];have OF:¬((decide (c<0)||decide ((bytes:Int)*c>2 ^ 48)||decide (l<0)||decide (l>c))=true):=by
      simp;omega
     rw[if_neg OF];have Sy:∀{Q:Unit->Hp->Prop} (b:Nat) (g:Hp),Q () g->hw P (askRoom b) Q g:=fun {Q} b g q=>by
      unfold askRoom;split<;>exact q
     rw[Ze];refine Sy _ _ ?_;rw[Ze,run_sizeOf hn];have fin:∀z':Array D,(bP (c.toNat*n)).map (fun j=>z'[j%z'.size]!)=(Jl c.toNat z).toArray->hw P (do
       let a <-newRow e' ((bP (c.toNat*n)).map (fun j=>z'[j%z'.size]!))
       pure (Value.slice (G a) l.toNat c.toNat)) K h:=by
      intro z' FK;rw[FK];exact H
     split
     .rename_i h0;refine fin #[] ?_;have:(Jl c.toNat z).length=0:=by rw[Sx,Dx,h0]
      rw[a1 this,h0];simp
     .rename_i h0;obtain⟨v,hv,hr⟩:=Ke hz;rw[Ze,hr];refine fin v.cells ?_;have:z≠[]:=by intro e;subst e;simp at Dx;subst Dx;simp at h0
      rw[hv,<-Dx];exact eQ z this c.toNat
    .exact H.elim
   .exact H.elim
  .cases he
 .exact H.elim
theorem Dz{op:Op}(H:Vc P T op ty K F h):HG P T ⟨U,op,ty, "", #[],U⟩ K F h:=by
 have lift:∀{s:Sem D},hw P s K h->hw P (do pure (Next.value (<-s))) (XA P T K) h:=fun {s} H=>by rw[Ze];exact H
 unfold Vc at H;split at H
 .exact H
 .exact H
 .rename_i c a b;show hw P (do pure (.value (if <-asBool (ev F c) then ev F a else ev F b))) (XA P T K) h;unfold GB at H;split at H
  .rename_i t ht;rw[ht];cases t<;>exact H
  .exact H.elim
 .rename_i e;refine lift ?_;unfold nk tz at H;split at H
  .rename_i l hl
   cases hi:P.info? e with
   | none=>rw[hi]at hl;cases hl
   | some i=>
    rw[hi]at hl
    cases hz:i.zero with
    | none=>rw[ao,hz]at hl;cases hl
    | some z=>
     rw[ao,hz]at hl;simp only[a0,Option.some.injEq]at hl;subst hl;simp only[Instr.alloc,zeroValue,Ze,Y2 hi,hz,newVar,newRow,newObj,ZC,hw]
     simpa using H
  .exact H.elim
 .rename_i e x;refine lift ?_;simp only[nk,Oz]at H;simp only[Instr.box,newVar,newRow,newObj,Ze,ZC];exact H
 .exact lift (AM H)
 .refine (?_:hw P (do Instr.storeAt _ _ _;pure Next.skip) (XA P T K) h);rw[Ze];exact Dt H
 .exact lift (Du H)
 .exact lift (nq H)
 .rename_i x;unfold AG at H;split at H
  .rename_i a hx;show hw P (match ev F x with|.pointer U|.nilIface|.nilFunc=>_|.func (.method name) first captured=>_|x=>_) _ h;rw[hx];exact H
  .rename_i f a b hx;show hw P (match ev F x with|.pointer U|.nilIface|.nilFunc=>_|.func (.method name) first captured=>_|x=>_) _ h;rw[hx];exact H
  .exact H.elim
 .exact lift H
 .exact lift H
 .exact lift H
 .exact lift (HM H)
 .rename_i fn first captured;refine lift ?_;have e1:∀l:Array a5,l.map (ev F)=(ie F l.toList).toArray:=fun l=>by rw[FI,<-bp]
  show hw P (Instr.makeFunc fn (first.map (ev F)) (captured.map (ev F))) K h;rw[e1,e1];exact H
 .rename_i f args ts;exact AO (x:=f) (c:=⟨.value f,args,ts⟩) rfl rfl (by rw[FI];simp) H
 .rename_i b args ts;have e1:args.map (ev F)=(ie F args.toList).toArray:=by rw[FI,<-bp]
  unfold Sa at H;rw[<-e1]at H;exact H
 .exact lift (Dw H)
 .exact lift (HN H)
 .exact lift (ig H)
 .exact lift (ii H)
 .exact lift (ij H)
 .exact lift (nu H)
 .exact H
theorem JI{o:Oper}(H:Vc P T o.op o.type K F h):HG P T o K F h:=Dz H
def Ug:List Oper->Env->Nat->D
 | [],_,_=>undef
 | o :: _,F,0=>match o.dst with|some t=>F t|none=>undef
 | _ :: l,F,n+1=>Ug l F n
def XX(v:D)(b:Bool)(A B:Prop):Prop:=match v with|al c=>if c=b then A else B|_=>B
def Pa(P:aa)(T:am)(ops:List Oper)(N:Env->Hp->Prop):List Oper->Env->Hp->Prop
 | [],F,h=>N F h
 | ⟨d,op,ty,_,_,U⟩ :: l,F,h=>Vc P T op ty (fun v h'=>Pa P T ops N l (Z5 F d v) h') F h
 | ⟨d,op,ty,_,_,G (j,b)⟩ :: l,F,h=>XX (Ug ops F j) b (Vc P T op ty (fun v h'=>Pa P T ops N l (Z5 F d v) h') F h) (Pa P T ops N l (Z5 F d undef) h)
theorem HQ(ops:List Oper)(F:Env):∀j,UD ops.toArray F j=match Ug ops F j with|al b=>G b|_=>U:=by
 intro j;unfold UD;rw[b6]
 induction ops generalizing j with
 | nil=>rfl
 | cons o l ih=>
  cases j with
  | zero=>simp only[bV,ao,Ug];cases o.dst<;>rfl
  | succ j=>simp only[b0,Ug];exact ih j
theorem Xb(ops:List Oper)(F:Env)(d:Option Tmp)(op:Op)(pos:String)(UH:Array Edge)(j:Nat)(b:Bool){A B:Prop}(H:XX (Ug ops F j) b A B):
  (Yo ops.toArray ⟨d,op,ty,pos,UH,G (j,b)⟩ F=true/\A)\/(Yo ops.toArray ⟨d,op,ty,pos,UH,G (j,b)⟩ F=false/\B):=by
 unfold Yo br;simp only[HQ];unfold XX at H;split at H
 .rename_i c hc;split at H
  .rename_i FM;exact .inl ⟨by simp[FM],H⟩
  .rename_i FM;exact .inr ⟨by simpa using FM,H⟩
 .rename_i Ys;refine .inr ⟨?_,H⟩
  cases hv:Ug ops F j<;>first|rfl|exact (Ys _ hv).elim
theorem Qr{op:Op}{K':D->Hp->Prop}(hk:∀v h,K v h->K' v h)(H:Vc P T op ty K F h):HG P T ⟨U,op,ty, "", #[],U⟩ K' F h:=Ou hk (Dz H)
theorem Qc:∀(l:List Oper) (F:Env) (h:Hp),Pa P T ops N l F h->HH P T ops.toArray N l F h
 | [],F,h,H=>H
 | ⟨d,op,ty,pos,UH,U⟩ :: l,F,h,H=>by
  show (if Yo ops.toArray _ F=true then _ else _);rw[if_pos (by rfl)];exact Qr (fun v h' q=>Qc l _ _ q) H
 | ⟨d,op,ty,pos,UH,G (j,b)⟩ :: l,F,h,H=>by
  show (if Yo ops.toArray _ F=true then _ else _);rcases Xb ops F d op pos UH j b H with⟨hw,H⟩|⟨hw,H⟩
  .rw[if_pos hw];exact Qr (fun v h' q=>Qc l _ _ q) H
  .rw[hw,if_neg Dq];exact Qc l _ _ H
def Tb(P:aa)(T:am)(ops:List Oper)(S:Hp->Prop)(N:Env->Hp->Prop):List (Nat × Bool × Oper)->Env->Hp->Prop
 | [],F,h=>N F h
 | (_,true,⟨d,op,ty,_,_,U⟩) :: l,F,h=>∃v,(∀h',S h'->Vc P T op ty (fun v' NS=>v'=v/\NS=h') F h')/\Tb P T ops S N l (Z5 F d v) h
 | (_,false,⟨d,op,ty,_,_,U⟩) :: l,F,h=>Vc P T op ty (fun v h'=>S h'/\Tb P T ops S N l (Z5 F d v) h') F h
 | (_,true,⟨d,op,ty,_,_,G (j,b)⟩) :: l,F,h=>XX (Ug ops F j) b (∃v,(∀h',S h'->Vc P T op ty (fun v' NS=>v'=v/\NS=h') F h')/\Tb P T ops S N l (Z5 F d v) h) (Tb P T ops S N l (Z5 F d undef) h)
 | (_,false,⟨d,op,ty,_,_,G (j,b)⟩) :: l,F,h=>XX (Ug ops F j) b (Vc P T op ty (fun v h'=>S h'/\Tb P T ops S N l (Z5 F d v) h') F h) (Tb P T ops S N l (Z5 F d undef) h)
theorem XT{S:Hp->Prop}:∀(l:List (Nat × Bool × Oper)) (F:Env) (h:Hp),Tb P T ops S N l F h->Ox P T ops.toArray S N l F h
 | [],F,h,H=>H
 | (i,true,⟨d,op,ty,pos,UH,U⟩) :: l,F,h,H=>by
  show (if Yo ops.toArray _ F=true then _ else _);rw[if_pos (by rfl)];obtain⟨v,hv,H⟩:=H;exact⟨v,fun h' hs=>JI (hv h' hs),XT l _ _ H⟩
 | (i,false,⟨d,op,ty,pos,UH,U⟩) :: l,F,h,H=>by
  show (if Yo ops.toArray _ F=true then _ else _);rw[if_pos (by rfl)];exact Qr (fun v h' q=>⟨q.1,XT l _ _ q.2⟩) H
 | (i,true,⟨d,op,ty,pos,UH,G (j,b)⟩) :: l,F,h,H=>by
  show (if Yo ops.toArray _ F=true then _ else _);rcases Xb ops F d op pos UH j b H with⟨hw,H⟩|⟨hw,H⟩
  .rw[if_pos hw];obtain⟨v,hv,H⟩:=H;exact⟨v,fun h' hs=>JI (hv h' hs),XT l _ _ H⟩
  .rw[hw,if_neg Dq];exact XT l _ _ H
 | (i,false,⟨d,op,ty,pos,UH,G (j,b)⟩) :: l,F,h,H=>by
  show (if Yo ops.toArray _ F=true then _ else _);rcases Xb ops F d op pos UH j b H with⟨hw,H⟩|⟨hw,H⟩
  .rw[if_pos hw];exact Qr (fun v h' q=>⟨q.1,XT l _ _ q.2⟩) H
  .rw[hw,if_neg Dq];exact XT l _ _ H
theorem VS.Zb0{X:Nat->Env->Hp->Prop}{R:Env->Hp->Prop}{id:Nat}(hm:P.follows .mixedOrders=true)(XM:V3 n ops.toArray ((bo ops.toArray.size).map fun i=>(i,true))=true)(H:Tb P T ops (fun h'=>h'=h) N (ops.map fun o=>(0,true,o)) F h):VS P n T (.region id ops.toArray true) N X R F h:=by
 refine VS.quiet hm XM ?_;have key:∀(l:List Oper) (k:Nat) (F:Env),(∀j,l[j]? = ops[k+j]?)->Tb P T ops (fun h'=>h'=h) N (l.map fun o=>(0,true,o)) F h ->
   Tb P T ops (fun h'=>h'=h) N (UY ops.toArray ((cu k (M l)).map fun i=>(i,true))) F h:=by
  intro l
  induction l with
  | nil=>intro k F _ H;exact H
  | cons o l ih=>
   intro k F hl H;have h0:ops[k]? = G o:=by simpa using (hl 0).symm
   have Ar:∀j,l[j]? = ops[k+1+j]?:=fun j=>by have:=hl (j+1);simpa [cc,cn 1 j] using this
   have e:UY ops.toArray ((cu k (o :: l).length).map fun i=>(i,true))=(k,true,o) :: UY ops.toArray ((cu (k+1) (M l)).map fun i=>(i,true)):=by
    simp[UY,List.range'_succ,h0]
   rw[e];obtain⟨d,op,ty,pos,UH,g⟩:=o
   cases g with
   | none=>
    obtain⟨v,hv,H⟩:=H;exact⟨v,hv,ih (k+1) _ Ar H⟩
   | some jb=>
    obtain⟨j,b⟩:=jb;simp only[cB,Tb]at H ⊢;unfold XX at *;split at H
    .split at H
     .rename_i FM;rw[if_pos FM];obtain⟨v,hv,H⟩:=H;exact⟨v,hv,ih (k+1) _ Ar H⟩
     .rename_i FM;rw[if_neg FM];exact ih (k+1) _ Ar H
    .exact ih (k+1) _ Ar H
 have:=key ops 0 F (fun j=>by simp) H;rw[List.range_eq_range'];exact XT _ _ _ this
def GF(v:D)(A B:Prop):Prop:=match v with|al b=>if b=true then A else B|_=>False
def vc(P:aa)(n:Nat)(T:am):Code->(Env->Hp->Prop)->(Nat->Env->Hp->Prop)->(Env->Hp->Prop)->Env->Hp->Prop
 | .skip,N,_,_,F,h=>N F h
 | .ret,_,_,R,F,h=>R F h
 | .exit j,_,X,_,F,h=>X j F h
 | .seq a b,N,X,R,F,h=>vc P n T a (fun F h=>vc P n T b N X R F h) X R F h
 | .cond c a b,N,X,R,F,h=>GF (ev F c) (vc P n T a N X R F h) (vc P n T b N X R F h)
 | .block j c,N,X,R,F,h=>vc P n T c N (fun i F h=>if i=j then N F h else X i F h) R F h
 | .region _ ops false,N,_,_,F,h=>Pa P T ops.toList N ops.toList F h
 | c,N,X,R,F,h=>VS P n T c N X R F h
def codeOk(n:Nat):Code->Bool
 | .seq a b=>codeOk n a&&codeOk n b
 | .cond _ a b=>codeOk n a&&codeOk n b
 | .block _ c=>codeOk n c
 | .region _ ops false=>T9 n ops
 | _=>true
theorem JC:∀(c:Code) (N:Env->Hp->Prop) (X:Nat->Env->Hp->Prop) (R:Env->Hp->Prop) (F:Env) (h:Hp),codeOk n c=true->vc P n T c N X R F h->VS P n T c N X R F h:=by
 intro c
 induction c with
 | skip=>intro N X R F h _ H;exact VS.skip H
 | ret=>intro N X R F h _ H;exact VS.ret H
 | exit j=>intro N X R F h _ H;exact VS.exit H
 | seq a b iha ihb=>
  intro N X R F h XM H;simp only[codeOk,aw]at XM;exact VS.seq (VS.mono (iha _ _ _ _ _ XM.1 H) (fun F h q=>ihb _ _ _ _ _ XM.2 q) (fun _ _ _ q=>q) (fun _ _ q=>q))
 | cond c a b iha ihb=>
  intro N X R F h XM H;simp only[codeOk,aw]at XM;simp only[vc,GF]at H;split at H
  .rename_i t ht;refine VS.cond ht (fun hb=>?_) (fun hb=>?_)
   .rw[if_pos hb]at H;exact iha _ _ _ _ _ XM.1 H
   .rw[if_neg (by simp[hb])]at H;exact ihb _ _ _ _ _ XM.2 H
  .exact H.elim
 | block j c ih=>intro N X R F h XM H;exact VS.block (ih _ _ _ _ _ XM H)
 | region id ops draw=>
  intro N X R F h XM H
  cases draw with
  | true=>exact H
  | false=>exact VS.region XM (by simpa using Qc _ _ _ H)
 | _=>intro N X R F h _ H;exact H
theorem Zc.vH{f:FuncId}{fn:Func}{c:Code}{l:List ResultVar}{args:List D}(hf:P.funcs[f]? = G fn)(hb:fn.body=G c)(hl:fn.results=l.toArray)(hn:cP (M args) fn.ntmps=true)(XM:codeOk fn.ntmps c=true)(H:vc P fn.ntmps T c (fun F h'=>Ws P l F Q h') (fun _ _ _=>False) (fun F h'=>Ws P l F Q h') (Ot args 0) h):
  Zc P T f args.toArray h Q:=
 Zc.Kb hf hb hl (by simpa using hn) (by simpa using JC _ _ _ _ _ _ XM H)
end
section
variable {P:aa} {T:am} {K:D->Hp->Prop} {F:Env} {h:Hp} {ty:O}
def vI(P:aa)(T:am)(ops:List Oper)(N:Env->Hp->Prop)(l:List Oper)(F:Env)(d:Option Tmp):D->Hp->Prop:=fun v h=>Pa P T ops N l (Z5 F d v) h
theorem nw{l:List Oper}:vI P T ops N l F d v h=Pa P T ops N l (Z5 F d v) h:=rfl
theorem nx:Pa P T ops N [] F h=N F h:=rfl
theorem AP{l:List Oper}{op:Op}{pos:String}{UH:Array Edge}:
  Pa P T ops N (⟨d,op,ty,pos,UH,U⟩ :: l) F h=Vc P T op ty (vI P T ops N l F d) F h:=rfl
def AQ(P:aa)(T:am)(ops:List Oper)(N:Env->Hp->Prop)(l:List Oper)(F:Env)(d:Option Tmp)(op:Op)(ty:O)(v:D)(b:Bool)(h:Hp):Prop:=
 XX v b (Vc P T op ty (vI P T ops N l F d) F h) (Pa P T ops N l (Z5 F d undef) h)
theorem AS{l:List Oper}{op:Op}{pos:String}{UH:Array Edge}{j:Nat}{b:Bool}:
  Pa P T ops N (⟨d,op,ty,pos,UH,G (j,b)⟩ :: l) F h=AQ P T ops N l F d op ty (Ug ops F j) b h:=rfl
theorem DA{l:List Oper}{op:Op}{b c:Bool}:
  AQ P T ops N l F d op ty (.bool c) b h=if c=b then Vc P T op ty (vI P T ops N l F d) F h else Pa P T ops N l (Z5 F d undef) h:=rfl
def ZfI(P:aa)(n:Nat)(T:am)(b:Code)(N:Env->Hp->Prop)(X:Nat->Env->Hp->Prop)(R:Env->Hp->Prop):Env->Hp->Prop:=fun F h=>vc P n T b N X R F h
def Zb3(j:Nat)(N:Env->Hp->Prop)(X:Nat->Env->Hp->Prop):Nat->Env->Hp->Prop:=fun i F h=>if i=j then N F h else X i F h
def DB:Nat->Env->Hp->Prop:=fun _ _ _=>False
def ik(P:aa)(l:List ResultVar)(Q:D->Hp->Prop):Env->Hp->Prop:=fun F h=>Ws P l F Q h
def ZaQ(P:aa)(n:Nat)(T:am)(v:D)(a b:Code)(N:Env->Hp->Prop)(X:Nat->Env->Hp->Prop)(R:Env->Hp->Prop)(F:Env)(h:Hp):Prop:=
 GF v (vc P n T a N X R F h) (vc P n T b N X R F h)
section
variable {n:Nat} {N:Env->Hp->Prop} {X:Nat->Env->Hp->Prop} {R:Env->Hp->Prop}
theorem ny{b:Code}:ZfI P n T b N X R F h=vc P n T b N X R F h:=rfl
theorem nz{j:Nat}:Zb3 j N X i F h=if i=j then N F h else X i F h:=rfl
theorem il:DB i F h=False:=rfl
theorem nA{l:List ResultVar}:ik P l Q F h=Ws P l F Q h:=rfl
theorem vJ:vc P n T .skip N X R F h=N F h:=rfl
theorem Zb4:vc P n T .ret N X R F h=R F h:=rfl
theorem vK{j:Nat}:vc P n T (.exit j) N X R F h=X j F h:=rfl
theorem Zb5{a b:Code}:vc P n T (.seq a b) N X R F h=vc P n T a (ZfI P n T b N X R) X R F h:=rfl
theorem vL{c:a5}{a b:Code}:vc P n T (.cond c a b) N X R F h=ZaQ P n T (ev F c) a b N X R F h:=rfl
theorem nC{j:Nat}{c:Code}:vc P n T (.block j c) N X R F h=vc P n T c N (Zb3 j N X) R F h:=rfl
theorem io{id:Nat}{l:List Oper}:vc P n T (.region id l.toArray false) N X R F h=Pa P T l N l F h:=rfl
theorem vM{id:Nat}{l:Array Oper}:vc P n T (.region id l true) N X R F h=VS P n T (.region id l true) N X R F h:=rfl
theorem vN{c:Code}:vc P n T (.loop c) N X R F h=VS P n T (.loop c) N X R F h:=rfl
theorem AT{a b:Code}{t:Bool}:ZaQ P n T (al t) a b N X R F h=if t=true then vc P n T a N X R F h else vc P n T b N X R F h:=rfl
end
theorem Zc.nE{f:FuncId}{fn:Func}{c:Code}{l:List ResultVar}{args:List D}(hf:P.funcs[f]? = G fn)(hb:fn.body=G c)(hl:fn.results=l.toArray)(hn:cP (M args) fn.ntmps=true)(XM:codeOk fn.ntmps c=true)(H:vc P fn.ntmps T c (ik P l Q) DB (ik P l Q) (Ot args 0) h):Zc P T f args.toArray h Q:=Zc.vH hf hb hl hn XM H
theorem Zc.Y8{f:FuncId}{fn:Func}{c:Code}{l:List ResultVar}(args:List D)(hf:P.funcs[f]? = G fn)(H:vc P fn.ntmps T c (ik P l Q) DB (ik P l Q) (Ot args 0) h)(hb:fn.body=G c:=by rfl)(hl:fn.results=l.toArray:=by rfl)(hn:cP (M args) fn.ntmps=true:=by rfl)(XM:codeOk fn.ntmps c=true:=by rfl):Zc P T f args.toArray h Q:=Zc.nE hf hb hl hn XM H
def XB(I:Env->Hp->Prop)(μ:Env->Hp->Nat)(m:Nat):Env->Hp->Prop:=fun F h=>I F h/\μ F h<m
theorem VS.Z9{X:Nat->Env->Hp->Prop}{R:Env->Hp->Prop}{c:Code}(I:Env->Hp->Prop)(μ:Env->Hp->Nat)(XM:codeOk n c=true)(h0:I F h)(round:∀F h,I F h->vc P n T c (XB I μ (μ F h)) X R F h):VS P n T (.loop c) N X R F h:=
 VS.loop I μ h0 fun F h hI=>JC _ _ _ _ _ _ XM (round F h hI)
theorem Zc.use{f:FuncId}{args:Array D}(c:Zc P T f args h Q)(H:∀v h',Q v h'->K v h'):Zc P T f args h K:=c.mono H
theorem Zc.pure{f:FuncId}{args:Array D}{r:D}(c:Zc P T f args h fun v h'=>v=r/\h'=h)(H:K r h):Zc P T f args h K:=
 c.mono fun _ _ ⟨e1,e2⟩=>by subst e1;subst e2;exact H
def ap(B:D->Prop)(v:D):Prop:=B v
def Sz(v:D)(h:Hp):D->Hp->Prop:=fun v' h'=>v'=v/\h'=h
def NW(P:aa)(T:am)(ops:List Oper)(N:Env->Hp->Prop):List Oper->Env->Hp->Prop
 | [],F,h=>N F h
 | ⟨d,op,ty,_,_,U⟩ :: l,F,h=>∃v,Vc P T op ty (Sz v h) F h/\NW P T ops N l (Z5 F d v) h
 | ⟨d,op,ty,_,_,G (j,b)⟩ :: l,F,h=>XX (Ug ops F j) b (∃v,Vc P T op ty (Sz v h) F h/\NW P T ops N l (Z5 F d v) h) (NW P T ops N l (Z5 F d undef) h)
theorem Qs:∀(l:List Oper) (F:Env),NW P T ops N l F h->Tb P T ops (fun h'=>h'=h) N (l.map fun o=>(0,true,o)) F h
 | [],_,H=>H
 | ⟨d,op,ty,pos,UH,U⟩ :: l,F,H=>by
  obtain⟨v,hv,H⟩:=H;exact⟨v,fun h' e=>by subst e;exact hv,Qs l _ H⟩
 | ⟨d,op,ty,pos,UH,G (j,b)⟩ :: l,F,H=>by
  simp only[NW,XX]at H;simp only[cB,Tb,XX];split at H
  .split at H
   .rename_i FM;rw[if_pos FM];obtain⟨v,hv,H⟩:=H;exact⟨v,fun h' e=>by subst e;exact hv,Qs l _ H⟩
   .rename_i FM;rw[if_neg FM];exact Qs l _ H
  .exact Qs l _ H
theorem VS.q{X:Nat->Env->Hp->Prop}{R:Env->Hp->Prop}{id:Nat}(hm:P.follows .mixedOrders=true)(XM:V3 n ops.toArray ((bo ops.toArray.size).map fun i=>(i,true))=true)(H:NW P T ops N ops F h):VS P n T (.region id ops.toArray true) N X R F h:=VS.Zb0 hm XM (Qs _ _ H)
def qK(P:aa)(T:am)(ops:List Oper)(N:Env->Hp->Prop)(l:List Oper)(F:Env)(d:Option Tmp)(h:Hp):D->Prop:=fun v=>NW P T ops N l (Z5 F d v) h
def FN(P:aa)(T:am)(op:Op)(ty:O)(B:D->Prop)(F:Env)(h:Hp):Prop:=∃v,Vc P T op ty (Sz v h) F h/\ap B v
def nF(P:aa)(T:am)(ops:List Oper)(N:Env->Hp->Prop)(l:List Oper)(F:Env)(d:Option Tmp)(op:Op)(ty:O)(v:D)(b:Bool)(h:Hp):Prop:=
 XX v b (FN P T op ty (qK P T ops N l F d h) F h) (NW P T ops N l (Z5 F d undef) h)
theorem nG:NW P T ops N [] F h=N F h:=rfl
theorem AU{l:List Oper}{op:Op}{pos:String}{UH:Array Edge}:
  NW P T ops N (⟨d,op,ty,pos,UH,U⟩ :: l) F h=FN P T op ty (qK P T ops N l F d h) F h:=rfl
theorem AV{l:List Oper}{op:Op}{pos:String}{UH:Array Edge}{j:Nat}{b:Bool}:
  NW P T ops N (⟨d,op,ty,pos,UH,G (j,b)⟩ :: l) F h=nF P T ops N l F d op ty (Ug ops F j) b h:=rfl
theorem DC{l:List Oper}{op:Op}{b c:Bool}:
  nF P T ops N l F d op ty (al c) b h=if c=b then FN P T op ty (qK P T ops N l F d h) F h else NW P T ops N l (Z5 F d undef) h:=rfl
theorem Zb6{l:List Oper}:qK P T ops N l F d h v=NW P T ops N l (Z5 F d v) h:=rfl
def qR(x:Option D)(B:D->Prop):Prop:=match x with|some v=>ap B v|none=>False
theorem vO{B:D->Prop}:qR (G v) B=B v:=rfl
theorem mD{B:D->Prop}:(∃u,Sz u h v h/\ap B u)=B v:=by
 apply propext;constructor
 .rintro⟨u,⟨e,_⟩,H⟩;subst e;exact H
 .intro H;exact⟨v,⟨rfl,rfl⟩,H⟩
section
variable {B:D->Prop}
theorem nH:FN P T (.move x) ty B F h=B (ev F x):=mD
theorem AW:FN P T (.assign x) ty B F h=B (ev F x):=mD
def nI(c a b:D)(B:D->Prop):Prop:=match c with|al t=>B (if t then a else b)|_=>False
theorem AX{t:Bool}{a b:D}:nI (al t) a b B=B (if t=true then a else b):=rfl
theorem nJ{c a b:a5}:FN P T (.pick c a b) ty B F h=nI (ev F c) (ev F a) (ev F b) B:=by
 show (∃u,GB _ _ _ (Sz u h) h/\ap B u)=_;unfold GB nI
 cases ev F c<;>first|exact mD|simp
def eW(s:Option Bool)(n:Option Nat)(p:D)(B:D->Prop)(h:Hp):Prop:=
 match p with
 | J (G a)=>match s,n with
  | some false,_=>qR (hc h a) B
  | some true,G n=>qR ((rd h a n).map fun l=>aI l.toArray) B
  | _,_=>False
 | _=>False
theorem iq{n:Option Nat}:eW (G false) n (J (G a)) B h=qR (hc h a) B:=rfl
theorem AY:eW (G true) (G n) (J (G a)) B h=qR ((rd h a n).map fun l=>aI l.toArray) B:=rfl
theorem nK:FN P T (.load t x) ty B F h=eW (ta P t) (tn P t) (ev F x) B h:=by
 show (∃u,OB _ _ _ (Sz u h) h/\ap B u)=_;unfold OB eW
 cases ev F x with
 | pointer a=>
  cases a with
  | none=>simp
  | some a=>
   simp only;rcases ta P t with _|b
   .simp
   .cases b
    .simp only[LN,qR]
     cases hc h a with
     | none=>simp
     | some v=>exact mD
    .rcases tn P t with _|n
     .simp
     .simp only[Kz,qR]
      cases rd h a n with
      | none=>simp
      | some v=>exact mD
 | _=>simp
def AZ(f:Option Nat)(p:D)(B:D->Prop):Prop:=match f,p with|some o,J (G a)=>B (J (G (a.add o)))|_,_=>False
theorem DD{f:Nat}:AZ (G o) (J (G ⟨b,f,U⟩)) B=B (J (G ⟨b,f+o,U⟩)):=by
 show B (J (G (Addr.add _ _)))=_;rw[addr_add]
theorem ir:FN P T (.fieldAddr t x i) ty B F h=AZ (tf P t i) (ev F x) B:=by
 show (∃u,PP _ _ (Sz u h) h/\ap B u)=_;unfold PP AZ;rcases tf P t i with _|o
 .simp
 .cases ev F x with
  | pointer a=>cases a with
   | none=>simp
   | some a=>exact mD
  | _=>simp
def qIx(arr:Option (Nat × O))(sl:Option O)(n:O->Option Nat)(p i:D)(B:D->Prop):Prop:=
 match i with
 | .int _ i=>(match arr,sl,p with
  | some (len,e),U,J (G a)=>(match n e with
   | some n=>if 0<=i/\i<(len:Int) then B (J (G (a.add (i.toNat*n)))) else False
   | none=>False)
  | none,G e,Z (G a) len _=>(match n e with
   | some n=>if 0<=i/\i<(len:Int) then B (J (G (a.add (i.toNat*n)))) else False
   | none=>False)
  | _,_,_=>False)
 | _=>False
def vP(m:Option Nat)(len:Nat)(a:Addr)(i:Int)(B:D->Prop):Prop:=
 match m with|some m=>if 0<=i/\i<(len:Int) then B (J (G (a.add (i.toNat*m)))) else False|none=>False
theorem vQ{n:O->Option Nat}{i:Int}:qIx (G (len,e)) U n (J (G a)) (.int k i) B=vP (n e) len a i B:=rfl
theorem is{n:O->Option Nat}{i:Int}:qIx U (G e) n (Z (G a) len cap) (.int k i) B=vP (n e) len a i B:=rfl
theorem it{f:Nat}{i:Int}:vP (G m) len ⟨b,f,U⟩ i B=if 0<=i/\i<(len:Int) then B (J (G ⟨b,f+i.toNat*m,U⟩)) else False:=by
 simp only[vP,addr_add]
theorem PT{c:Prop}[Decidable c]{A:D->Prop}:(∃u,(if c then A u else False)/\ap B u)=if c then (∃u,A u/\ap B u) else False:=by
 split<;>simp
theorem Zb7{i:a5}:FN P T (.indexAddr t x i) ty B F h=qIx (YO P t) (Js P t) (tn P) (ev F x) (ev F i) B:=by
 show (∃u,vIx _ _ _ _ _ (Sz u h) h/\ap B u)=_;unfold vIx qIx
 cases ev F i with
 | int k i=>
  simp only;rcases YO P t with _|⟨len,e⟩
  .rcases Js P t with _|e
   .simp
   .cases ev F x with
    | slice a len cap=>
     cases a with
     | none=>simp
     | some a=>
      simp only;rcases tn P e with _|n
      .simp
      .simp only;rw[PT,mD]
    | _=>simp
  .rcases Js P t with _|e'
   .cases ev F x with
    | pointer a=>
     cases a with
     | none=>simp
     | some a=>
      simp only;rcases tn P e with _|n
      .simp
      .simp only;rw[PT,mD]
    | _=>simp
   .simp
 | _=>simp
def OG(v:D)(i:Nat)(B:D->Prop):Prop:=match v with|.tuple vs=>qR (vs[i]?) B|_=>False
theorem KH:OG (.tuple l.toArray) i B=qR (nth l i) B:=by simp[OG,YE]
theorem DF:FN P T (.extract x i) ty B F h=OG (ev F x) i B:=by
 show (∃u,UF _ _ (Sz u h) h/\ap B u)=_;unfold UF OG
 cases ev F x with
 | tuple vs=>
  simp only[LN,qR]
  cases vs[i]? with
  | none=>simp
  | some v=>exact mD
 | _=>simp
def Zb8(v:D)(B:D->Prop):Prop:=match v with|J (G a)=>B (J (G a))|.func (.func f) x y=>B (.func (.func f) x y)|_=>False
theorem FO:Zb8 (J (G a)) B=B (J (G a)):=rfl
theorem vS:FN P T (.nilCheck x) ty B F h=Zb8 (ev F x) B:=by
 show (∃u,AG _ (Sz u h) h/\ap B u)=_;unfold AG Zb8
 cases ev F x with
 | pointer a=>cases a with
  | none=>simp
  | some a=>exact mD
 | func f a b=>cases f with
  | func f=>exact mD
  | _=>simp
 | _=>simp
theorem vU{op:BinOp}{t':O}:FN P T (.binOp op t x y t') ty B F h = ∃u,Y1 P op t x y (ev F x) (ev F y) (Sz u h) h/\ap B u:=rfl
theorem Zb9{op:UnOp}:FN P T (.unOp op t x) ty B F h = ∃u,vUn P op (ev F x) (Sz u h) h/\ap B u:=rfl
theorem nL{s d:O}:FN P T (.convert s d x) ty B F h = ∃u,V7 P s d (ev F x) (Sz u h) h/\ap B u:=rfl
theorem Zca{b:Builtin}{args:Array a5}{ts:Array O}:FN P T (.call ⟨.builtin b,args,ts⟩) ty B F h =
  ∃u,Sa P T b ts ty (args.map fun|.const _=>true|_=>false) (ie F args.toList) (Sz u h) h/\ap B u:=rfl
end
theorem Zcb{t:Nat}:ev F (.tmp t)=F t:=rfl
theorem nM:ev F (.const v)=v:=rfl
theorem iu{g:Nat}:ev F (.global g)=J (G ⟨g,0,U⟩):=rfl
theorem vV{g:Nat}:ev F (.func g)=.func (.func g) #[] #[]:=rfl
theorem Zk{d:Nat}{t:Nat}:Z5 F (G d) v t=if t=d then v else F t:=rfl
theorem iw:Z5 F U v=F:=rfl
theorem vW{d:Nat}{t:Nat}:Gz F d v t=if t=d then v else F t:=rfl
theorem A0{t:Bool}{a b:D}:GB (al t) a b K h=K (if t=true then a else b) h:=rfl
theorem iy:nk (G l) t K h=K (J (G ⟨h.size,0,U⟩)) (h.push (Y l.toArray t)):=rfl
theorem iz:LN (G v) K h=K v h:=rfl
theorem iA:Kz (G l) K h=K (aI l.toArray) h:=rfl
theorem GG{n:Option Nat}:OB (G false) n (J (G a)) K h=LN (hc h a) K h:=rfl
theorem KI:OB (G true) (G n) (J (G a)) K h=Kz (rd h a n) K h:=rfl
theorem nN:eH (G h') K=K undef h':=rfl
theorem A7{i:Int}:UZ (G n) (J (G a)) (.int k i) K h=if n=1 then eH (Jb h a (.int k i)) K else False:=rfl
theorem DG{b:Bool}:UZ (G n) (J (G a)) (al b) K h=if n=1 then eH (Jb h a (al b)) K else False:=rfl
theorem FP{p:Option Addr}{l c:Nat}:UZ (G n) (J (G a)) (Z p l c) K h=if n=1 then eH (Jb h a (Z p l c)) K else False:=rfl
theorem HS{s:ByteArray}:UZ (G n) (J (G a)) (.string s) K h=if n=1 then eH (Jb h a (.string s)) K else False:=rfl
theorem KJ{p:Option Addr}:UZ (G n) (J (G a)) (.pointer p) K h=if n=1 then eH (Jb h a (.pointer p)) K else False:=rfl
theorem A9{p:Option Nat}:UZ (G n) (J (G a)) (.map p) K h=if n=1 then eH (Jb h a (.map p)) K else False:=rfl
theorem DH{f:Fn}{x y:Array D}:UZ (G n) (J (G a)) (.func f x y) K h=if n=1 then eH (Jb h a (.func f x y)) K else False:=rfl
theorem KK:UZ (G n) (J (G a)) .nilFunc K h=if n=1 then eH (Jb h a .nilFunc) K else False:=rfl
theorem ab:UZ (G n) (J (G a)) (aI l.toArray) K h=if n=(M l) then eH (wr h a l) K else False:=rfl
theorem DI{f:Nat}:PP (G o) (J (G ⟨b,f,U⟩)) K h=K (J (G ⟨b,f+o,U⟩)) h:=by
 show K (J (G (Addr.add _ _))) h=_;rw[addr_add]
def vX(m:Option Nat)(len:Nat)(a:Addr)(i:Int)(K:D->Hp->Prop)(h:Hp):Prop:=
 match m with|some m=>if 0<=i/\i<(len:Int) then K (J (G (a.add (i.toNat*m)))) h else False|none=>False
theorem vY{n:O->Option Nat}{i:Int}:
  vIx (G (len,e)) U n (J (G a)) (.int k i) K h=vX (n e) len a i K h:=rfl
theorem iB{n:O->Option Nat}{i:Int}:
  vIx U (G e) n (Z (G a) len cap) (.int k i) K h=vX (n e) len a i K h:=rfl
theorem iC{f:Nat}{i:Int}:vX (G m) len ⟨b,f,U⟩ i K h=if 0<=i/\i<(len:Int) then K (J (G ⟨b,f+i.toNat*m,U⟩)) h else False:=by
 simp only[vX,addr_add]
theorem KL:UF (.tuple l.toArray) i K h=LN (nth l i) K h:=by simp[UF,YE]
theorem FQ:AG (J (G a)) K h=K (J (G a)) h:=rfl
theorem iE{f:FuncId}{x y:Array D}:AG (.func (.func f) x y) K h=K (.func (.func f) x y) h:=rfl
theorem ad{f:FuncId}(hg:goes P f=true):OC P T (.func (.func f) #[] #[]) l K h=Zc P T f l.toArray h K:=by
 simp only[OC,hg,↓reduceIte];simp
theorem nO{a b:Int}:Y1 P .add t x y (.int k a) (.int k b) K h=K (.int k (k.wrap (a+b))) h:=by
 simp[Y1,binOp,Op.intArith,ZC,eqGuard]
theorem nP{a b:Int}:Y1 P .sub t x y (.int k a) (.int k b) K h=K (.int k (k.wrap (a-b))) h:=by
 simp[Y1,binOp,Op.intArith,ZC,eqGuard]
theorem nQ{a b:Int}:Y1 P .mul t x y (.int k a) (.int k b) K h=K (.int k (k.wrap (a*b))) h:=by
 simp[Y1,binOp,Op.intArith,ZC,eqGuard]
theorem nR{a b:Int}:Y1 P .quo t x y (.int k a) (.int k b) K h=if b=0 then False else K (.int k (k.wrap (a.tdiv b))) h:=by
 simp only[Y1,binOp,Op.intDiv,Ze,eqGuard];by_cases hb:b=0
 .subst hb;simp[runtimePanic,goPanic,Ze,hw,ZC,program]
 .simp[hb,ZC]
theorem nT{a b:Int}:Y1 P .rem t x y (.int k a) (.int k b) K h=if b=0 then False else K (.int k (a.tmod b)) h:=by
 simp only[Y1,binOp,Op.intDiv,Ze,eqGuard];by_cases hb:b=0
 .subst hb;simp[runtimePanic,goPanic,Ze,hw,ZC,program]
 .simp[hb,ZC]
def Ym(op:BinOp)(k:IntKind)(a b:Int):Int:=
 let x:=BitVec.ofInt k.bits a
 let y:=BitVec.ofInt k.bits b
 k.wrap (match op with|.and=>x &&& y|.or=>x ||| y|.xor=>x ^^^ y|_=>x &&& ~~~y).toNat
theorem nU{a b:Int}:Y1 P .and t x y (.int k a) (.int k b) K h=K (.int k (Ym .and k a b)) h:=by
 simp[Y1,binOp,Op.intBits,ZC,eqGuard,Ym]
theorem vZ{a b:Int}:Y1 P .or t x y (.int k a) (.int k b) K h=K (.int k (Ym .or k a b)) h:=by
 simp[Y1,binOp,Op.intBits,ZC,eqGuard,Ym]
theorem nV{a b:Int}:Y1 P .xor t x y (.int k a) (.int k b) K h=K (.int k (Ym .xor k a b)) h:=by
 simp[Y1,binOp,Op.intBits,ZC,eqGuard,Ym]
theorem DJ{a b:Int}:Y1 P .andNot t x y (.int k a) (.int k b) K h=K (.int k (Ym .andNot k a b)) h:=by
 simp[Y1,binOp,Op.intBits,ZC,eqGuard,Ym]
def YS(k:IntKind)(a b:Int):Int:=k.wrap (a*2 ^ min b.toNat k.bits)
def Xw(k:IntKind)(a b:Int):Int:=a.fdiv (2 ^ min b.toNat k.bits)
theorem nW{k':IntKind}{a b:Int}:Y1 P .shl t x y (.int k a) (.int k' b) K h=if b<0 then False else K (.int k (YS k a b)) h:=by
 simp only[Y1,binOp,Op.shift,Ze,eqGuard];by_cases hb:b<0
 .simp[hb,runtimePanic,goPanic,Ze,hw,ZC,program]
 .simp[hb,ZC,YS]
theorem nX{k':IntKind}{a b:Int}:Y1 P .shr t x y (.int k a) (.int k' b) K h=if b<0 then False else K (.int k (Xw k a b)) h:=by
 simp only[Y1,binOp,Op.shift,Ze,eqGuard];by_cases hb:b<0
 .simp[hb,runtimePanic,goPanic,Ze,hw,ZC,program]
 .simp[hb,ZC,Xw]
theorem nY{a b:Int}:Y1 P .eql t x y (.int k a) (.int k b) K h=K (al (decide (a=b))) h:=by
 simp[Y1,binOp,Op.intCmp,ZC,eqGuard];rfl
theorem nZ{a b:Int}:Y1 P .neq t x y (.int k a) (.int k b) K h=K (al (decide (a≠b))) h:=by
 simp[Y1,binOp,Op.intCmp,ZC,eqGuard];have:(a != b) = !decide (a=b):=by rfl
 rw[this]
theorem oe{a b:Int}:Y1 P .lss t x y (.int k a) (.int k b) K h=K (al (decide (a<b))) h:=by
 simp[Y1,binOp,Op.intCmp,ZC,eqGuard]
theorem om{a b:Int}:Y1 P .leq t x y (.int k a) (.int k b) K h=K (al (decide (a<=b))) h:=by
 simp[Y1,binOp,Op.intCmp,ZC,eqGuard]
theorem oq{a b:Int}:Y1 P .gtr t x y (.int k a) (.int k b) K h=K (al (decide (b<a))) h:=by
 simp[Y1,binOp,Op.intCmp,ZC,eqGuard]
theorem ov{a b:Int}:Y1 P .geq t x y (.int k a) (.int k b) K h=K (al (decide (b<=a))) h:=by
 simp[Y1,binOp,Op.intCmp,ZC,eqGuard]
theorem wh{b:Bool}:vUn P .not (al b) K h=K (al (!b)) h:=rfl
theorem wm{a:Int}:vUn P .neg (.int k a) K h=K (.int k (k.wrap (0-a))) h:=rfl
theorem wo{a:Int}:vUn P .xor (.int k a) K h=K (.int k (Ym .xor k (if k.signed then -1 else k.max) a)) h:=rfl
def oy(d:Option IntKind)(a:Int)(K:D->Hp->Prop)(h:Hp):Prop:=match d with|some k=>K (.int k (k.wrap a)) h|none=>False
theorem DK{a:Int}:oy (G k) a K h=K (.int k (k.wrap a)) h:=rfl
theorem iF{s d:O}{j:IntKind}{a:Int}(hs:(HJ P s).isSome=true)(hd:(HJ P d).isSome=true):V7 P s d (.int j a) K h=oy (HJ P d) a K h:=by
 unfold HJ at hd hs;split at hd
 .rename_i k1 h1;split at hs
  .rename_i k2 h2;simp only[V7,convert,Ze,Zv h1,Zv h2];unfold HJ;rw[h1];rfl
  .cases hs
 .cases hd
theorem iG{a b:ByteArray}:Y1 P .eql t x y (.string a) (.string b) K h=K (al (a.toList == b.toList)) h:=by
 simp[Y1,binOp,Op.stringOp,ZC,eqGuard]
theorem iH{a b:ByteArray}:Y1 P .neq t x y (.string a) (.string b) K h=K (al (!(a.toList == b.toList))) h:=by
 simp[Y1,binOp,Op.stringOp,ZC,eqGuard]
theorem FS{cs:Array Bool}{p:Option Addr}{l c:Nat}(ht:(Js P t).isSome=true):
  Sa P T .len #[t] ty cs [Z p l c] K h=K (.int .i64 l) h:=by
 unfold Js at ht;split at ht
 .rename_i e' hu;simp[Sa,builtin,cT,Ze,ZC,Zv hu,XA,goInt]
 .cases ht
theorem iI(h:Uf P t=true):P.underlying t=G .string:=by
 unfold Uf at h;split at h
 .assumption
 .cases h
theorem HT{cs:Array Bool}{s:ByteArray}(ht:Uf P t=true):
  Sa P T .len #[t] ty cs [.string s] K h=K (.int .i64 s.size) h:=by
 simp[Sa,builtin,cT,Ze,ZC,Zv (iI ht),XA,goInt]
theorem wq{ts:Array O}{cs:Array Bool}{k':IntKind}{a b:Int}:Sa P T .min ts ty cs [.int k a,.int k' b] K h=K (.int k (if b<a then b else a)) h:=by
 simp[Sa,builtin,Builtin.min_,Builtin.min2,ZC,XA]
theorem wu{ts:Array O}{cs:Array Bool}{k':IntKind}{a b:Int}:Sa P T .max ts ty cs [.int k a,.int k' b] K h=K (.int k (if b>a then b else a)) h:=by
 simp[Sa,builtin,Builtin.max_,Builtin.max2,ZC,XA]
end
section
variable {P:aa} {T:am} {K:D->Hp->Prop} {F:Env} {h:Hp} {ty:O} {B:D->Prop}
def oB(p:Option (Nat × Nat))(place:Nat->Option (Nat × Nat))(cs:List D)(v:D)(l:List (Nat × D)):Option (List D):=
 match p with
 | some (o,s)=>if (cl v).length=s/\o+s<=(M cs) then UG place (YJ cs o (cl v)) l else U
 | none=>U
theorem iJ:UG place cs []=G cs:=rfl
theorem ae{l:List (Nat × D)}:UG place cs ((i,v) :: l)=oB (place i) place cs v l:=rfl
theorem DM{s:Nat}{l:List (Nat × D)}:
  oB (G (o,s)) place cs v l=if (cl v).length=s/\o+s<=(M cs) then UG place (YJ cs o (cl v)) l else U:=rfl
theorem iK:OD n i=G (i*n,n):=rfl
theorem HU{z:List D}{pl:List (Nat × Nat)}{n:O->Option Nat}:PQ (G z) (G pl) U n parts K h=Kz (UG (nth pl) z parts) K h:=rfl
theorem af{z:List D}{e:Nat}{n:O->Option Nat}:PQ (G z) U (G (m,e)) n parts K h=Kc (n e) z parts K h:=rfl
theorem FT{z:List D}:Kc (G n) z parts K h=Kz (UG (OD n) z parts) K h:=rfl
theorem ag:eI e len (G l) K h=K (Z (G ⟨h.size,0,U⟩) len len) (h.push (Y l.toArray e)):=rfl
theorem KM{z:List D}:Ru e (G n) (G z) len parts K h=if (M z)=n/\len*n<=16777216 then eI e len (Kd n len z parts) K h else False:=rfl
theorem HW{n:O->Option Nat}{z:O->Option (List D)}:OE (G e) n z len parts K h=Ru e (n e) (z e) len parts K h:=rfl
theorem ah:MO (G true) (G n) cs o K h=K (aI ((cs.drop o).take n).toArray) h:=rfl
theorem DN{n:Option Nat}:MO (G false) n cs o K h=LN (nth cs o) K h:=rfl
theorem iL{t:Nat}{a:O->Option Bool}{n:O->Option Nat}:np (G (o,t)) a n (aI cs.toArray) K h=MO (a t) (n t) cs o K h:=rfl
theorem oC{e:Nat}{a:O->Option Bool}{n:O->Option Nat}{i:Int}:AJ (G (len,e)) false a n (aI cs.toArray) (.int k i) K h=eJ (n e) (a e) len cs i K h:=rfl
theorem ai{a:Option Bool}{i:Int}:eJ (G m) a len cs i K h=if 0<=i/\i<(len:Int) then MO a (G m) cs (i.toNat*m) K h else False:=rfl
theorem oE{a:O->Option Bool}{n:O->Option Nat}{s:ByteArray}{i:Int}:AJ U true a n (.string s) (.int k i) K h=if 0<=i/\i<(s.size:Int) then K (.int .u8 ((s.data.toList.getD i.toNat 0).toNat:Nat)) h else False:=rfl
theorem ww{d y:Nat}:sb U d y=G d:=rfl
theorem Zcc{i:Int}{d y:Nat}:sb (G (.int k i)) d y=if 0<=i/\i<=(y:Int) then G i.toNat else U:=rfl
def Pw(a:Option Addr)(n cap b:Nat)(l:Option Nat)(K:D->Hp->Prop)(h:Hp):Prop:=
 match l with|some l=>K (Z (if cap=l then a else a.map (·.add (l*n))) (b-l) (cap-l)) h|none=>False
def oF(n:Nat)(a:Option Addr)(cap:Nat)(lo:Option D)(b:Option Nat)(K:D->Hp->Prop)(h:Hp):Prop:=
 match b with|some b=>Pw a n cap b (sb lo 0 b) K h|none=>False
theorem aj{a:Option Addr}{hi:Option D}:Sb (G n) a len cap lo hi K h=oF n a cap lo (sb hi len cap) K h:=by
 unfold Sb oF Pw
 cases sb hi len cap<;>rfl
theorem ak{a:Option Addr}:oF n a cap lo (G b) K h=Pw a n cap b (sb lo 0 b) K h:=rfl
theorem an{l k:Nat}:Pw (G ⟨k,o,U⟩) n cap b (G l) K h=K (Z (if cap=l then G ⟨k,o,U⟩ else G ⟨k,o+l*n,U⟩) (b-l) (cap-l)) h:=by
 simp only[Pw,a0,addr_add]
theorem aq{l:Nat}:Pw U n cap b (G l) K h=K (Z U (b-l) (cap-l)) h:=by
 simp[Pw]
theorem ar{e:Nat}{str:Bool}{n:O->Option Nat}{a:Option Addr}{hi:Option D}:HK U (G e) str n (Z a len cap) lo hi U K h=Sb (n e) a len cap lo hi K h:=rfl
def oH(n:Option Nat)(a:Option Addr)(len:Nat)(lo:Option D)(hv:D)(m:Option Nat)(K:D->Hp->Prop)(h:Hp):Prop:=match m with|some m=>Sb n a len m lo (G hv) K h|none=>False
theorem au{n:Option Nat}{a:Option Addr}{hv:D}:oH n a len lo hv (G m) K h=Sb n a len m lo (G hv) K h:=rfl
theorem oI{e:Nat}{str:Bool}{n:O->Option Nat}{a:Option Addr}{hv mv:D}:HK U (G e) str n (Z a len cap) lo (G hv) (G mv) K h=oH (n e) a len lo hv (sb (G mv) 0 cap) K h:=by
 simp only[HK,oH]
 cases sb (G mv) 0 cap<;>rfl
theorem oJ{e:Nat}{str:Bool}{n:O->Option Nat}{hi:Option D}:HK (G (len,e)) U str n (J (G a)) lo hi U K h=Sb (n e) (G a) len len lo hi K h:=rfl
def MP(s:ByteArray)(lo:Option D)(b:Option Nat)(K:D->Hp->Prop)(h:Hp):Prop:=
 match b with
 | some b=>(match sb lo 0 b with|some l=>K (.string (s.extract l b)) h|none=>False)
 | none=>False
theorem oK{n:O->Option Nat}{s:ByteArray}{hi:Option D}:HK U U true n (.string s) lo hi U K h=MP s lo (sb hi s.size s.size) K h:=rfl
theorem oL{e:Nat}{n b':O->Option Nat}{z:O->Option (List D)}{k':IntKind}{l c:Int}:vMk (G e) n b' z (.int k l) (.int k' c) K h=vE e (n e) (b' e) (z e) l c K h:=rfl
theorem iM{e by':Nat}{z:List D}{l c:Int}:vE e (G n) (G by') (G z) l c K h =
  if (M z)=n/\0<=l/\l<=c/\c<=9223372036854775807/\(by':Int)*c<=281474976710656 then K (Z (G ⟨h.size,0,U⟩) l.toNat c.toNat) (h.push (Y (Jl c.toNat z).toArray e)) else False:=rfl
theorem wy:FN P T (.field t x i) ty B F h = ∃u,np (tfl P t i) (ta P) (tn P) (ev F x) (Sz u h) h/\ap B u:=rfl
theorem wC{i:a5}:FN P T (.index t x i) ty B F h = ∃u,AJ (YO P t) (Uf P t) (ta P) (tn P) (ev F x) (ev F i) (Sz u h) h/\ap B u:=rfl
theorem wE{lo hi mx:Option a5}:FN P T (.slice t x lo hi mx) ty B F h = ∃u,HK (YO P t) (Js P t) (Uf P t) (tn P) (ev F x) (eK F lo) (eK F hi) (eK F mx) (Sz u h) h/\ap B u:=rfl
theorem iN{parts:Array (Nat × a5)}:FN P T (.build t parts) ty B F h = ∃u,PQ (tz P t) (PO P t) (YO P t) (tn P) (AH F parts.toList) (Sz u h) h/\ap B u:=rfl
theorem Zcd:cl (aI l.toArray)=l:=rfl
theorem Rx:hc (h.push (Y l.toArray t)) ⟨b,o,U⟩=if b=h.size then nth l o else hc h ⟨b,o,U⟩:=by
 unfold hc;simp only[a2];by_cases hb:b=h.size
 .subst hb;simp[YE]
 .simp[hb]
theorem eY:rd (h.push (Y l.toArray t)) ⟨b,o,U⟩ n=if b=h.size then (if o+n<=(M l) then G ((l.drop o).take n) else U) else rd h ⟨b,o,U⟩ n:=by
 unfold rd;simp only[a2];by_cases hb:b=h.size
 .subst hb;simp
 .simp[hb]
def DO(x:Option Hp)(o:Obj):Option Hp:=match x with|some h=>G (h.push o)|none=>U
theorem ax{o:Obj}:DO (G h) o=G (h.push o):=rfl
theorem set_push{o o':Obj}(hb:b<h.size):(h.push o).setIfInBounds b o'=(h.setIfInBounds b o').push o:=by
 apply bb;intro i;simp only[av,a2,bg,Array.size_setIfInBounds];by_cases h1:b=i
 .subst h1;rw[if_pos rfl,if_pos gX,if_neg gX,if_pos rfl,if_pos hb]
 .rw[if_neg h1];by_cases h2:i=h.size
  .rw[if_pos h2,if_pos h2]
  .rw[if_neg h2,if_neg h2,if_neg h1]
theorem UI{o o':Obj}:(h.push o).setIfInBounds h.size o'=h.push o':=by
 apply bb;intro i;simp only[av,a2,bg];by_cases h1:h.size=i
 .subst h1;rw[if_pos rfl,if_pos gX,if_pos rfl]
 .rw[if_neg h1,if_neg (fun e=>h1 e.symm),if_neg (fun e=>h1 e.symm)]
theorem oM:Jb (h.push (Y l.toArray t)) ⟨b,o,U⟩ v=if b=h.size then (if o<(M l)/\Yq v=true then G (h.push (Y (l.set o v).toArray t)) else U) else DO (Jb h ⟨b,o,U⟩ v) (Y l.toArray t):=by
 unfold Jb;simp only[a2];by_cases hb:b=h.size
 .subst hb;simp only[↓reduceIte,co,bx,true_and,UI,List.setIfInBounds_toArray]
 .simp only[if_neg hb]
  cases hx:h[b]? with
  | none=>rfl
  | some ob=>
   have ZL:=(a4.1 hx).1
   cases ob with
   | cells c e fr=>
    obtain⟨lo,hi⟩:=fr;simp only;split
    .simp only[DO,set_push ZL]
    .rfl
   | _=>rfl
theorem wF{vs:List D}:wr (h.push (Y l.toArray t)) ⟨b,o,U⟩ vs=if b=h.size then (if o+(M vs)<=(M l)/\vs.all Yq=true then G (h.push (Y (YJ l o vs).toArray t)) else U) else DO (wr h ⟨b,o,U⟩ vs) (Y l.toArray t):=by
 unfold wr;simp only[a2];by_cases hb:b=h.size
 .subst hb;simp only[↓reduceIte,co,bx,true_and,UI]
 .simp only[if_neg hb]
  cases hx:h[b]? with
  | none=>rfl
  | some ob=>
   have ZL:=(a4.1 hx).1
   cases ob with
   | cells c e fr=>
    obtain⟨lo,hi⟩:=fr;simp only;split
    .simp only[DO,set_push ZL]
    .rfl
   | _=>rfl
end
def Xd(h:Hp)(b o:Nat)(cs:List D):Prop:=∀i (hi:i<(M cs)),hc h ⟨b,o+i,U⟩=G cs[i]
def Sl(n:Nat)(h:Hp)(v:D)(m:Nat)(cs:List D):Prop:=
 ∃p cap,v=Z p m cap/\(M cs)=m*n/\(cs≠[]->∃b o,p=G ⟨b,o,U⟩/\Xd h b o cs)
def Own(B:Nat)(E:O)(n:Nat)(h:Hp)(v:D)(m:Nat)(cs:List D):Prop:=
 ((∃p,v=Z p 0 0)/\m=0/\cs=[]) \/
 ∃b cap Zx,B<=b/\v=Z (G ⟨b,0,U⟩) m cap/\h[b]? = G (Y (cs++Zx).toArray E (0,0))/\(M cs)=m*n/\(M Zx)=(cap-m)*n/\m<=cap
structure Zf(B:Nat)(h h':Hp):Prop where
 size:h.size<=h'.size
 block:∀b,b<B->h'[b]? = h[b]?
theorem Zf.refl(B:Nat)(h:Hp):Zf B h h:=⟨bx _,fun _ _=>rfl⟩
theorem Zf.trans{NS:Hp}(a:Zf B h h')(b:Zf B h' NS):Zf B h NS:=
 ⟨Nat.le_trans a.size b.size,fun k hk=>(b.block k hk).trans (a.block k hk)⟩
theorem Zf.mono{B':Nat}(a:Zf B h h')(hB:B'<=B):Zf B' h h':=⟨a.size,fun k hk=>a.block k (Nat.lt_of_lt_of_le hk hB)⟩
theorem Zf.push(hB:B<=h.size)(o:Obj):Zf B h (h.push o):=
 ⟨Dq,fun k hk=>by rw[a2,if_neg gX]⟩
theorem Zf.set(hb:B<=b)(o:Obj):Zf B h (h.setIfInBounds b o):=
 ⟨Dq,fun k hk=>by rw[av,if_neg gX]⟩
theorem Zf.hc(a:Zf B h h'){p:Addr}(hp:p.block<B):hc h' p=hc h p:=by unfold V.hc;rw[a.block _ hp]
theorem Za{o:Obj}(hb:h[b]? = G o):b<h.size:=(a4.1 hb).1
theorem UJ{p:Addr}(hp:hc h p=G v):p.block<h.size:=by
 unfold hc at hp
 cases hb:h[p.block]? with
 | none=>rw[hb]at hp;cases hp
 | some o=>exact Za hb
theorem Qd{c:Array D}{fr:Nat × Nat}(hb:h[b]? = G (Y c e fr))(o:Nat):hc h ⟨b,o,U⟩=c[o]?:=by
 unfold hc;simp only[hb];rfl
theorem Zf.Xd(a:Zf B h h')(hb:b<B)(YR:Xd h b o cs):Xd h' b o cs:=
 fun i hi=>by rw[a.hc (by exact hb)];exact YR i hi
theorem Sl.Yb(s:Sl n h v m cs)(a:Zf h.size h h'):Sl n h' v m cs:=by
 obtain⟨p,cap,hv,hl,hc⟩:=s;refine⟨p,cap,hv,hl,fun Ys=>?_⟩;obtain⟨b,o,hp,YR⟩:=hc Ys;refine⟨b,o,hp,a.Xd ?_ YR⟩;have KC:0<(M cs):=bD.2 Ys;exact UJ (YR 0 KC)
theorem Own.sl(s:Own B E n h v m cs):Sl n h v m cs:=by
 rcases s with⟨⟨p,rfl⟩,rfl,rfl⟩|⟨b,cap,Zx,hB,rfl,hb,hl,_,_⟩
 .exact⟨p,0,rfl,Dq,fun h=>(h rfl).elim⟩
 .refine⟨_,cap,rfl,hl,fun _=>⟨b,0,rfl,fun i hi=>?_⟩⟩;rw[Qd hb,b2];simp[bL hi]
theorem Own.nil(B:Nat)(E:O)(n:Nat)(h:Hp):Own B E n h (Z U 0 0) 0 []:=.inl ⟨⟨U,rfl⟩,rfl,rfl⟩
theorem Own.HX(B:Nat)(E:O)(n:Nat)(h:Hp)(p:Option Addr):Own B E n h (Z p 0 0) 0 []:=.inl ⟨⟨p,rfl⟩,rfl,rfl⟩
def ZJ:D->Option Nat
 | Z (G a) _ cap=>if cap=0 then U else G a.block
 | _=>U
structure Ue(x:Option Nat)(h h':Hp):Prop where
 size:h.size<=h'.size
 block:∀b,b<h.size->x≠G b->h'[b]? = h[b]?
theorem Ue.Yb{x:Option Nat}(a:Ue x h h')(hB:B<=h.size)(hx:∀b,x=G b->B<=b):Zf B h h':=
 ⟨a.size,fun k hk=>a.block k gX (fun e=>by have:=hx k e;omega)⟩
theorem Own.ZQ(s:Own B E n h v m cs):∀b,ZJ v=G b->B<=b:=by
 intro b hb;rcases s with⟨⟨p,rfl⟩,_,_⟩|⟨b',cap,Zx,hB,rfl,_⟩
 .cases p<;>simp[ZJ]at hb
 .simp only[ZJ]at hb;split at hb
  .cases hb
  .simp only[Option.some.injEq]at hb;omega
theorem Own.SA(s:Own B E n h v m cs){x:Option Nat}(a:Ue x h h')(hx:∀b,ZJ v=G b->x≠G b):Own B E n h' v m cs:=by
 rcases s with s|⟨b,cap,Zx,hB,rfl,hb,r⟩
 .exact .inl s
 .by_cases hc:cap=0
  .subst hc;obtain⟨r1,r2,r3⟩:=r;have hm:m=0:=gX;subst hm;exact .inl ⟨⟨_,rfl⟩,rfl,a1 (by simpa using r1)⟩
  .exact .inr ⟨b,cap,Zx,hB,rfl,by rw[a.block b (Za hb) (hx b (by simp[ZJ,hc]))];exact hb,r⟩
theorem Ue.push(o:Obj){x:Option Nat}:Ue x h (h.push o):=⟨Dq,fun k hk _=>by rw[a2,if_neg gX]⟩
theorem Ue.refl{x:Option Nat}:Ue x h h:=⟨bx _,fun _ _ _=>rfl⟩
theorem Own.push(s:Own B E n h v m cs)(o:Obj):Own B E n (h.push o) v m cs:=
 s.SA (x:=U) (Ue.push o) (fun _ _=>by simp)
theorem Own.Yb{C:Nat}(s:Own B E n h v m cs)(a:Zf C h h')(hC:h.size<=C):Own B E n h' v m cs:=
 s.SA (x:=U) ⟨a.size,fun b hb _=>a.block b gX⟩ (fun _ _=>by simp)
theorem Own.mono{B':Nat}(s:Own B E n h v m cs)(hB:B'<=B):Own B' E n h v m cs:=by
 rcases s with s|⟨b,cap,Zx,hb,r⟩
 .exact .inl s
 .exact .inr ⟨b,cap,Zx,gX,r⟩
section
variable {P:aa} {T:am} {K:D->Hp->Prop} {F:Env} {h:Hp} {ty:O}
theorem Yi(s:Sl n h v m cs){Q:Array D->Hp->Prop}(H:Q cs.toArray h):hw P (Builtin.firstCells n m v) Q h:=by
 obtain⟨p,cap,rfl,hl,hc⟩:=s
 cases p with
 | none=>
  have:cs=[]:=by
   cases cs with
   | nil=>rfl
   | cons x l=>obtain⟨b,o,hp,_⟩:=hc Dq;cases hp
  subst this;exact H
 | some a=>
  show hw P (loadCells a (m*n)) Q h;rw[<-hl];refine run_loadCells a cs _ 0 #[] (fun j hj=>?_) rfl (by simpa using H);obtain⟨b,o,hp,YR⟩:=hc (by intro e;subst e;simp at hj);simp only[Option.some.injEq]at hp;subst hp;rw[addr_add,b2,YR j hj];simp[hj]
theorem Sl.lenOf(s:Sl n h v m cs){Q:Nat->Hp->Prop}:hw P (Builtin.lenOf v) Q h=Q m h:=by
 obtain⟨p,cap,rfl,_,_⟩:=s;rfl
theorem UK(l r vs:List D):YJ (l++r) (M l) vs=l++YJ r 0 vs:=by
 induction l with
 | nil=>simp
 | cons x l ih=>
  cases vs with
  | nil=>simp[YJ]
  | cons v vs=>simp only[ct,be,YJ];rw[ih]
theorem Qe(r vs:List D)(h:(M vs)<=(M r)):YJ r 0 vs=vs++r.drop (M vs):=by
 induction vs generalizing r with
 | nil=>simp[YJ]
 | cons v vs ih=>
  cases r with
  | nil=>simp at h
  | cons x r=>simp only[YJ,ct,be,ca];rw[ih r (by simpa using h)]
theorem YL(z:Array D)(n:Nat):(bR z n).size=n*z.size:=by simp[bR]
theorem Us(U0 cap bytes:Nat)(ZL:cap<U0)(hb:U0*bytes<=140737488355328):a7 U0 cap*bytes<=281474976710656:=by
 have g1:∀(r c:Nat),U0<=c->bd U0 r c=c:=by
  intro r c hc
  cases r with
  | zero=>rfl
  | succ r=>simp[bd,hc]
 have g2:∀(r c:Nat),c<U0->bd U0 r c<=U0+(U0+768)/4:=by
  intro r
  induction r with
  | zero=>intro c hc;simp only[bd];omega
  | succ r ih=>
   intro c hc;simp only[bd];rw[if_neg gX];by_cases h2:c+(c+768)/4<U0
   .exact ih _ h2
   .rw[g1 r _ gX];omega
 have key:a7 U0 cap<=2*U0+192:=by
  unfold a7;split
  .omega
  .split
   .omega
   .have:=g2 4 cap ZL;omega
 have e1:a7 U0 cap*bytes<=(2*U0+192)*bytes:=a9 _ key;unfold a7;split
 .omega
 .rename_i h1;split
  .have:2*cap*bytes<=2*U0*bytes:=a9 _ gX;have e:2*U0*bytes=2*(U0*bytes):=by rw[Nat.mul_assoc]
   omega
  .rename_i h2;have hg:=g2 4 cap ZL;have h3:bd U0 4 cap*bytes<=(U0+(U0+768)/4)*bytes:=a9 _ hg;have h4:(U0+(U0+768)/4)*bytes<=(2*U0)*bytes:=a9 _ gX;have e:2*U0*bytes=2*(U0*bytes):=by rw[Nat.mul_assoc]
   omega
theorem KN{sT xT E E' k bytes:Nat}{s:D}{news zs:List D}{cb:Array Bool}(Uh:Js P sT=G E)(KO:P.underlying xT=G (.slice E'))(hn:tn P E=G n)(hz:tz P E=G zs)(DP:(M zs)=n)(WR:tb P E=G bytes)(Zy:Own B E n h v m cs)(hB:B<=h.size)(src:Sl n h s k news)(Xz:news.all Yq=true)(YB:(m+k)*bytes<=140737488355328)(KP:1<=bytes)(H:∀v' h',Own B E n h' v' (m+k) (cs++news)->Ue (ZJ v) h h'->K v' h'):Sa P T .append #[sT,xT] ty cb [v,s] K h:=by
 unfold Js at Uh;split at Uh
 .rename_i e' hu;simp only[Option.some.injEq]at Uh;subst Uh;show hw P (do pure (.value (<-b3 #[sT,xT] ty #[v,s]))) (XA P T K) h;rw[Ze];show hw P (b3 #[sT,xT] ty #[v,s]) K h;obtain⟨i0,VX⟩:∃i,P.info? e'=G i:=by
   unfold tn at hn
   cases hi:P.info? e' with
   | none=>rw[hi]at hn;cases hn
   | some i=>exact⟨i,rfl⟩
  have Rw:i0.bytes=bytes:=by unfold tb at WR;rw[VX]at WR;simpa using WR
  obtain⟨z0,GH,DQ⟩:∃z,i0.zero=G z/\z.cells.toList=zs:=by
   unfold tz at hz;rw[VX]at hz
   cases NV:i0.zero with
   | none=>rw[ao,NV]at hz;cases hz
   | some z=>rw[ao,NV]at hz;exact⟨z,rfl,by simpa using hz⟩
  have ic:∃base cap,v=Z base m cap:=by
   rcases Zy with⟨⟨p,rfl⟩,rfl,_⟩|⟨b,cap,sp,_,rfl,_⟩
   .exact⟨_,_,rfl⟩
   .exact⟨_,_,rfl⟩
  obtain⟨base,cap,hv⟩:=ic;subst hv;have ay:∀{Q:D->Hp->Prop} (g:Hp),hw P (zeroValue e') Q g=Q z0 g:=fun {Q} g=>by
   unfold zeroValue;rw[Ze,Y2 VX];simp only[GH];rfl
  simp only[b3,b6,bV,b0,Ze,ZC,Zv hu,Zv KO,run_sizeOf hn,a3,if_false,src.lenOf,Bool.not_false,if_true];by_cases JL:m+k<=cap
  .rw[if_pos JL,Ze];refine Yi src ?_;have Um:(M news)=k*n:=by obtain⟨_,_,_,hl,_⟩:=src;exact hl
   by_cases Ys:news=[]
   .subst Ys;have OH:hw P (match base with|some a=>(do storeCells (a.add (m*n)) [];pure (Value.slice base (m+k) cap))|none=>pure (Value.slice base (m+k) cap)) K h=K (Z base (m+k) cap) h:=by
     cases base<;>rfl
    have hK:K (Z base (m+k) cap) h:=by
     refine H _ _ ?_ Ue.refl;rcases Zy with⟨⟨p,h1⟩,h2,h3⟩|⟨b,OI,Zx,OJ,h1,hb,hl,TM,As⟩
     .simp only[Value.slice.injEq]at h1;obtain⟨rfl,rfl,rfl⟩:=h1;have hk:k=0:=gX;subst hk;subst h3;exact .inl ⟨⟨_,rfl⟩,rfl,rfl⟩
     .simp only[Value.slice.injEq]at h1;obtain⟨rfl,_,rfl⟩:=h1;have az:k*n=0:=by simpa using Um.symm
      refine .inr ⟨b,cap,Zx,OJ,rfl,by simpa using hb,by rw[List.append_nil,hl,bk,az];rfl,?_,JL⟩;rw[TM,cv,cv,bk,az,ck]
    cases base<;>exact hK
   rcases Zy with⟨⟨p,h1⟩,h2,h3⟩|⟨b,OI,Zx,OJ,h1,hb,hl,TM,As⟩
   .simp only[Value.slice.injEq]at h1;obtain⟨rfl,rfl,rfl⟩:=h1;have hk:k=0:=gX;subst hk;exact (Ys (a1 (by simpa using Um))).elim
   .simp only[Value.slice.injEq]at h1;obtain⟨rfl,_,rfl⟩:=h1;simp only[Ze,addr_add];have Wt:(M news)<=(M Zx):=by rw[Um,TM];exact a9 _ gX
    refine Yt (e:=e') (lo:=0) (hi:=0) rfl (bx _) news 0 h (cs++Zx).toArray hb ?_ Xz ?_
    .simp;rw[<-hl];omega
    .simp only[ZC,b2,ck];refine H _ _ (.inr ⟨b,cap,Zx.drop (M news),OJ,rfl,?_,?_,?_,JL⟩) ⟨Dq,fun b' Jc hx=>?_⟩
     .rw[av,if_pos rfl,if_pos (Za hb)];rw[<-hl,UK,Qe _ _ Wt,List.append_assoc]
     .rw[bh,hl,Um,bk]
     .rw[cq,TM,Um,<-cv];congr 1;omega
     .rw[av,if_neg];intro e;subst e;have wG:cap≠0:=by
       intro h0;subst h0;have:k=0:=gX;subst this;exact Ys (a1 (by simpa using Um))
      exact hx (by simp[ZJ,wG])
  .rw[if_neg JL];have QQ:¬a7 (m+k) cap*i0.bytes>2 ^ 48:=by
    rw[Rw];have:=Us (m+k) cap bytes gX YB;omega
   have FU:¬i0.bytes=0:=by rw[Rw];omega
   simp only[Ze,Y2 VX,FU,or_false,and_false,if_false,if_neg QQ];intro t;obtain⟨c,hc⟩:=ZD (Question.cut (Question.appendCap (m+k) cap e') t);have iO:m+k<=c:=by rw[hc];simp only[Question.cut];omega
   rw[<-hc];have Sy:∀{Q:Unit->Hp->Prop} (b:Nat) (g:Hp),Q () g->hw P (askRoom b) Q g:=fun {Q} b g q=>by
    unfold askRoom;split<;>exact q
   refine Sy _ _ (Yi Zy.sl (Yi src ?_));rw[ay];have iP:z0.cells.size=n:=by rw[<-DP,<-DQ];simp
   refine H (Z (G ⟨h.size,0,U⟩) (m+k) c) _ (.inr ⟨h.size,c,(bR z0.cells (c-(m+k))).toList,hB,rfl,?_,?_,?_,iO⟩) (Ue.push _)
   .rw[Array.getElem?_push_size];simp
   .have Um:(M news)=k*n:=by obtain⟨_,_,_,hl,_⟩:=src;exact hl
    have Jm:(M cs)=m*n:=by obtain⟨_,_,_,hl,_⟩:=Zy.sl;exact hl
    rw[bh,Jm,Um,bk]
   .rw[Array.length_toList,YL,iP]
 .cases Uh
def bv(x:Nat):D:=.int .u8 x
structure Bs(h:Hp)(v:D)(l:List Nat):Prop where
 sl:Sl 1 h v (M l) (l.map bv)
 byte:∀x∈l,x<256
structure Yd(B:Nat)(E:O)(h:Hp)(v:D)(l:List Nat):Prop where
 Zy:Own B E 1 h v (M l) (l.map bv)
 byte:∀x∈l,x<256
theorem Yd.bs{l:List Nat}(s:Yd B E h v l):Bs h v l:=⟨s.Zy.sl,s.byte⟩
theorem Bs.Yb{l:List Nat}(s:Bs h v l)(a:Zf h.size h h'):Bs h' v l:=⟨s.sl.Yb a,s.byte⟩
theorem Yd.Yb{C:Nat}{l:List Nat}(s:Yd B E h v l)(a:Zf C h h')(hC:h.size<=C):Yd B E h' v l:=⟨s.Zy.Yb a hC,s.byte⟩
theorem Yd.mono{B':Nat}{l:List Nat}(s:Yd B E h v l)(hB:B'<=B):Yd B' E h v l:=⟨s.Zy.mono hB,s.byte⟩
theorem Yd.push{l:List Nat}(s:Yd B E h v l)(o:Obj):Yd B E (h.push o) v l:=⟨s.Zy.push o,s.byte⟩
theorem Yd.nil(B:Nat)(E:O)(h:Hp):Yd B E h (Z U 0 0) []:=⟨Own.nil B E 1 h,fun _ h=>by cases h⟩
theorem Vz(l:List Nat):(l.map bv).all Yq=true:=by simp[bv,Yq]
theorem Bs.open{l:List Nat}(s:Bs h v l):∃p cap,v=Z p (M l) cap/\(l≠[]->∃b o,p=G ⟨b,o,U⟩/\b<h.size/\∀i (hi:i<(M l)),hc h ⟨b,o+i,U⟩=G (.int .u8 (l[i]:Nat))):=by
 obtain⟨⟨p,cap,hv,_,hc⟩,_⟩:=s;refine⟨p,cap,hv,fun Ys=>?_⟩;obtain⟨b,o,hp,YR⟩:=hc (by simpa using Ys);refine⟨b,o,hp,?_,fun i hi=>?_⟩
 .exact UJ (YR 0 (by simpa using bD.2 Ys))
 .have:=YR i (by simpa using hi)
  simpa [bv] using this
end
attribute [go_sem] vJ Zb4 vK Zb5 vL nC io vM vN ny nz il nA AT nx AP AS DA nw
 Vc Zcb nM iu vV ie Zk iw vW Ot Ug A0 iy cl iz iA GG KI nN A7 DG FP HS
 KJ A9 DH KK ab DI vY iB iC KL FQ iE ad
 nO nP nQ nR nT nU vZ nV DJ nW nX nY nZ oe om oq ov wh wm wo iF DK
 iG iH FS HT wq wu nG AU AV DC Zb6 vO mD nH AW nJ AX nK iq AY ir DD Zb7 vQ is it DF KH vS FO vU Zb9 nL Zca PT
 Ws JQ PN a0 ao Option.isSome_some decide_eq_true_eq decide_eq_false_iff_not
attribute [go_sem] iJ ae DM iK HU af FT ag KM HW ah DN iL oC ai oE ww Zcc aj ak an aq ar oI au oJ oK
 oL iM wy wC wE iN Zcd Rx eY ax oM wF AH eK nth YJ AI Kd Yq List.toList_toArray be cy ca List.drop_zero List.take_succ_cons List.take_zero cd cf
 bw List.all_nil Bool.and_true bg b2 List.take_nil List.drop_nil
def vi:D->Int|.int _ n=>n|_=>0
theorem Yp(l:List α)(i:Nat)(hi:i<(M l)):l.take (i+1)=l.take i++[l[i]]:=List.take_succ_eq_append_getElem hi
def w64(n:Int):Int:=IntKind.i64.wrap n
theorem aA(n:Int):IntKind.i64.wrap n=if -9223372036854775808<=n/\n<=9223372036854775807 then n else w64 n:=by
 split
 .rename_i h;exact b9 n h
 .rfl
theorem DR(n:Int):IntKind.u8.wrap n=n%256:=by simp[IntKind.wrap,IntKind.bits,IntKind.signed]
theorem OK(n:Int):IntKind.u32.wrap n=n%4294967296:=by simp[IntKind.wrap,IntKind.bits,IntKind.signed]
theorem OL(n:Int):IntKind.u64.wrap n=n%18446744073709551616:=by simp[IntKind.wrap,IntKind.bits,IntKind.signed]
attribute [go_sem] aA DR OK OL true_and and_true ne_eq not_true_eq_false not_false_eq_true decide_true decide_false Bool.false_eq_true Int.toNat_natCast Nat.mul_one
theorem NX(w a:Nat):BitVec.ofInt w (a:Int)=BitVec.ofNat w a:=by
 apply BitVec.eq_of_toNat_eq;simp[BitVec.toNat_ofNat]
theorem Tc(k:IntKind)(n:Nat)(h:n<2 ^ (if k.signed then k.bits-1 else k.bits)):k.wrap (n:Int)=n:=by
 cases k<;>simp[IntKind.wrap,IntKind.bits,IntKind.signed]at h ⊢<;>omega
theorem Ry(k:IntKind)(a b:Nat)(ha:a<2 ^ (if k.signed then k.bits-1 else k.bits))(hb:b<2 ^ (if k.signed then k.bits-1 else k.bits)):Ym .and k a b=((a &&& b:Nat):Int):=by
 have hle:2 ^ (if k.signed then k.bits-1 else k.bits)<=2 ^ k.bits:=bz gX (by split<;>omega);simp only[Ym,NX];rw[BitVec.toNat_and,BitVec.toNat_ofNat,BitVec.toNat_ofNat,a8 gX,a8 gX];exact Tc k _ (Nat.lt_of_le_of_lt Nat.and_le_left ha)
theorem OM(k:IntKind)(a b:Nat)(ha:a<2 ^ (if k.signed then k.bits-1 else k.bits))(hb:b<2 ^ (if k.signed then k.bits-1 else k.bits)):Ym .or k a b=((a ||| b:Nat):Int):=by
 have hle:2 ^ (if k.signed then k.bits-1 else k.bits)<=2 ^ k.bits:=bz gX (by split<;>omega);simp only[Ym,NX];rw[BitVec.toNat_or,BitVec.toNat_ofNat,BitVec.toNat_ofNat,a8 gX,a8 gX];exact Tc k _ (Nat.or_lt_two_pow ha hb)
theorem GI(k:IntKind)(a b:Nat)(ha:a<2 ^ (if k.signed then k.bits-1 else k.bits))(hb:b<2 ^ (if k.signed then k.bits-1 else k.bits)):Ym .xor k a b=((a ^^^ b:Nat):Int):=by
 have hle:2 ^ (if k.signed then k.bits-1 else k.bits)<=2 ^ k.bits:=bz gX (by split<;>omega);simp only[Ym,NX];rw[BitVec.toNat_xor,BitVec.toNat_ofNat,BitVec.toNat_ofNat,a8 gX,a8 gX];exact Tc k _ (Nat.xor_lt_two_pow ha hb)
theorem oN(a b:Nat)(ha:a<256)(hb:b<256):Ym .and .u8 a b=((a &&& b:Nat):Int):=Ry .u8 a b ha hb
theorem ZfJ(a b:Nat)(ha:a<256)(hb:b<256):Ym .or .u8 a b=((a ||| b:Nat):Int):=OM .u8 a b ha hb
theorem FV(a b:Nat)(ha:a<256)(hb:b<256):Ym .xor .u8 a b=((a ^^^ b:Nat):Int):=GI .u8 a b ha hb
theorem ON(a b:Nat)(ha:a<4294967296)(hb:b<4294967296):Ym .and .u32 a b=((a &&& b:Nat):Int):=Ry .u32 a b ha hb
theorem SC(a b:Nat)(ha:a<4294967296)(hb:b<4294967296):Ym .or .u32 a b=((a ||| b:Nat):Int):=OM .u32 a b ha hb
theorem Qf(a b:Nat)(ha:a<4294967296)(hb:b<4294967296):Ym .xor .u32 a b=((a ^^^ b:Nat):Int):=GI .u32 a b ha hb
theorem wH(a b:Nat)(ha:a<18446744073709551616)(hb:b<18446744073709551616):Ym .and .u64 a b=((a &&& b:Nat):Int):=Ry .u64 a b ha hb
theorem aB(a b:Nat)(ha:a<18446744073709551616)(hb:b<18446744073709551616):Ym .or .u64 a b=((a ||| b:Nat):Int):=OM .u64 a b ha hb
theorem wI(a b:Nat)(ha:a<9223372036854775808)(hb:b<9223372036854775808):Ym .and .i64 a b=((a &&& b:Nat):Int):=Ry .i64 a b ha hb
theorem PU(a b:Nat)(ha:a<9223372036854775808)(hb:b<9223372036854775808):Ym .or .i64 a b=((a ||| b:Nat):Int):=OM .i64 a b ha hb
theorem RB(k:IntKind)(a n:Nat)(hn:n<=k.bits):Xw k a n=((a >>> n:Nat):Int):=by
 simp only[Xw,cp,cz hn];rw[Int.fdiv_eq_ediv_of_nonneg _ (Int.le_of_lt (Int.pow_pos gX)),Nat.shiftRight_eq_div_pow];simp
theorem FW(k:IntKind)(a n:Nat)(hn:n<=k.bits):YS k a n=k.wrap ((a*2 ^ n:Nat):Int):=by
 simp only[YS,cp,cz hn];simp
theorem FX(a b:Nat):a ^^^ b=0↔a=b:=by
 constructor
 .intro h;have h2:a ^^^ b ^^^ b=0 ^^^ b:=by rw[h]
  rwa [Nat.xor_assoc,Nat.xor_self,Nat.xor_zero,Nat.zero_xor]at h2
 .intro h;subst h;exact Nat.xor_self a
theorem DS(a b:Nat):a ||| b=0↔a=0/\b=0:=by
 simp
open Go.ChangeShapes Go.WideShapes Go.ChangeAt Go.RowKit
def fit(P:aa)(h:Hp):Nat->O->List D->Prop
 | 0,_,_=>False
 | k+1,t,cs=>
  match P.underlying t with
  | some .bool=>∃b,cs=[al b]
  | some (.int i)=>∃n,cs=[.int i n]/\(Lit.int i n).wf=true
  | some .string=>∃s,cs=[.string s]/\s.size<=reachBytes
  | some (.slice e)=>∃p len cap,cs=[Z p len cap]/\len<=cap/\cap*P.bytesOf e<=reachBytes /\
    (len≠0->P.cellsOf e≠0->∃b o,p=G ⟨b,o,U⟩/\b<h.size/\∀i,i<len->∃ds,(M ds)=P.cellsOf e/\Xd h b (o+i*P.cellsOf e) ds/\fit P h k e ds)
  | some (.struct fs)=>(M cs)=P.cellsOf t/\∀f∈fs.toList,fit P h k f.type ((cs.drop f.offset).take (P.cellsOf f.type))
  | some (.array n e)=>(M cs)=P.cellsOf t/\∀i,i<n->fit P h k e ((cs.drop (i*P.cellsOf e)).take (P.cellsOf e))
  | _=>True
def iQ(P:aa)(h:Hp)(k:Nat)(t:O)(v:D):Prop:=
 match ta P t with
 | some true=>∃cs:List D,v=aI cs.toArray/\fit P h k t cs
 | _=>fit P h k t [v]
def fitAll(P:aa)(h:Hp):List O->List D->Prop
 | [],[]=>True
 | t :: ts,v :: vs=>(∃k,iQ P h k t v)/\fitAll P h ts vs
 | _,_=>False
theorem Td{β:Type}{f:α->Option β}:∀{l:List α} {r:List β},l.mapM f=G r->(M r)=(M l)/\∀(i:Nat) (x:α) (y:β),l[i]? = G x->r[i]? = G y->f x=G y
 | [],r,h=>by
  simp only[cA,pure,Option.some.injEq]at h;subst h;exact⟨rfl,fun i x y hx _=>by simp at hx⟩
 | a :: l,r,h=>by
  rw[bH]at h
  cases ha:f a with
  | none=>rw[ha]at h;cases h
  | some b=>
   rw[ha]at h
   cases hl:l.mapM f with
   | none=>simp[hl]at h
   | some bs=>
    simp[hl]at h;subst h;obtain⟨h1,h2⟩:=Td hl;refine⟨by simp[h1],fun i x y hx hy=>?_⟩
    cases i with
    | zero=>simp at hx hy;subst hx;subst hy;exact ha
    | succ i=>simp at hx hy;exact h2 i x y hx hy
theorem KQ{w:am}{base:Nat}{ds:List D}(h:w.cells? base a n=G ds):(M ds)=n/\∀i (hi:i<(M ds)),w.cell? (a.add i)=G ds[i]:=by
 unfold World.cells? at h;split at h
 .obtain⟨h1,h2⟩:=Td h;rw[bS]at h1;refine⟨h1,fun i hi=>h2 i i ds[i] ?_ ?_⟩
  .rw[bE gX]
  .exact a6 hi
 .cases h
theorem iR{w:am}(h:w.cell? (a.add i)=G v)(hi:i=0):a.spot=U:=by
 subst hi;have e:a.add 0=a:=by simp[Addr.add]
 rw[e]at h;unfold World.cell? at h;split at h
 .split at h
  .cases h
  .rename_i hs;simpa using hs
 .cases h
theorem Sc{H:Type}{q:Nat->Bool}:∀(ts:List O) (ds:List (DataW H)),(DataW.weightsEach P ts ds).all q=true->∀(i:Nat) (t:O) (d:DataW H),ts[i]? = G t->ds[i]? = G d->(d.weights P t).all q=true
 | [],_,_,i,t,d,ht,_=>by simp at ht
 | t :: ts,[],_,i,t',d,_,hd=>by simp at hd
 | t :: ts,d :: ds,h,i,t',d',ht,hd=>by
  simp only[DataW.weightsEach,bA,aw]at h
  cases i with
  | zero=>simp at ht hd;subst ht;subst hd;exact h.1
  | succ i=>simp at ht hd;exact Sc ts ds h.2 i t' d' ht hd
theorem Wu{H:Type}{q:Nat->Bool}:∀(ds:List (DataW H)),(DataW.weightsAll P e ds).all q=true->∀(i:Nat) (d:DataW H),ds[i]? = G d->(d.weights P e).all q=true
 | [],_,i,d,hd=>by simp at hd
 | d :: ds,h,i,d',hd=>by
  simp only[DataW.weightsAll,bA,aw]at h
  cases i with
  | zero=>simp at hd;subst hd;exact h.1
  | succ i=>simp at hd;exact Wu ds h.2 i d' hd
theorem Vd{H:Type}{enc:O × D->H}{w:am}:∀(k:Nat) (t:O) (cs:List D) (d:DataW H) (ps:List MemPlace),
  DataW.trod enc P w 0 (fun _=>true) true k t cs=G (d,ps)->(d.weights P t).all (· <= reachBytes)=true->fit P w.heap k t cs
 | 0,t,cs,d,ps,h,_=>by simp[DataW.trod]at h
 | k+1,t,cs,d,ps,h,hw=>by
  unfold DataW.trod at h;unfold fit;split at h
  .rename_i hu;rw[hu];exact⟨_,rfl⟩
  .rename_i i i' n hu;rw[hu];split at h
   .rename_i hc;obtain⟨rfl,hc⟩:=hc;exact⟨_,rfl,hc⟩
   .cases h
  .rename_i hu;rw[hu];trivial
  .rename_i s hu;rw[hu];split at h
   .simp only[Option.some.injEq,Prod.mk.injEq]at h;obtain⟨rfl,_⟩:=h;refine⟨_,rfl,?_⟩
    simpa [DataW.weights] using hw
   .cases h
  .rename_i hu;rw[hu];trivial
  .rename_i hu;rw[hu];trivial
  .rename_i e hu;rw[hu];exact⟨_,_,_,rfl,bx _,Dq,fun h=>(h rfl).elim⟩
  .rename_i e a len cap hu;rw[hu];split at h
   .rename_i OF;simp only[if_true]at h
    cases he:((bo len).mapM fun i=>(w.cells? 0 (a.add (i*P.cellsOf e)) (P.cellsOf e)).bind (DataW.trod enc P w 0 (fun _=>true) true k e)) with
    | none=>rw[he]at h;cases h
    | some elems=>
     rw[he]at h;simp only[ao]at h
     cases hr:((bo (cap-len)).mapM fun j=>(w.cells? 0 (a.add ((len+j)*P.cellsOf e)) (P.cellsOf e)).bind (DataW.trod enc P w 0 (fun _=>true) true k e)) with
     | none=>rw[hr]at h;cases h
     | some rest=>
      rw[hr]at h;simp only[a0,Option.some.injEq,Prod.mk.injEq]at h;obtain⟨rfl,_⟩:=h;obtain⟨l1,g1⟩:=Td he;obtain⟨l2,_⟩:=Td hr;rw[bS]at l1 l2;simp only[DataW.weights,hu,bw,bA,aw,List.length_map,decide_eq_true_eq]at hw;refine⟨_,_,_,rfl,OF.2.1,?_,fun hlen oP=>?_⟩
      .have:(M elems)+(M rest)=cap:=gX;rw[<-this];exact hw.1
      .have ZfK:∀i,i<len->∃ds x,w.cells? 0 (a.add (i*P.cellsOf e)) (P.cellsOf e)=G ds/\elems[i]? = G x/\DataW.trod enc P w 0 (fun _=>true) true k e ds=G x:=by
        intro i hi;have hx:elems[i]? = G elems[i]:=a6 gX;have:=g1 i i elems[i] (by rw[bE hi]) hx
        cases hc:w.cells? 0 (a.add (i*P.cellsOf e)) (P.cellsOf e) with
        | none=>rw[hc]at this;cases this
        | some ds=>rw[hc]at this;exact⟨ds,_,rfl,hx,this⟩
       obtain⟨ds0,x0,At,_,_⟩:=ZfK 0 gX;obtain⟨q1,q2⟩:=KQ At;have e0:a.add (0*P.cellsOf e)=a:=by simp[Addr.add]
       rw[e0]at q2;have TM:a.spot=U:=iR (q2 0 gX) rfl;have Zce:w.cell? a=G ds0[0]:=by have:=q2 0 gX;simpa [Addr.add] using this
       have ZL:a.block<w.heap.size:=UJ (h:=w.heap) (p:=a) (v:=ds0[0]) Zce;refine⟨a.block,a.off,?_,ZL,fun i hi=>?_⟩
       .obtain⟨b,o,s⟩:=a;simp only at TM;subst TM;rfl
       .obtain⟨ds,x,hc,hx,ht⟩:=ZfK i hi;obtain⟨r1,r2⟩:=KQ hc;refine⟨ds,r1,fun j hj=>?_,?_⟩
        .have:=r2 j hj;rw[Rv a _ TM,addr_add]at this;exact this
        .refine Vd k e ds x.1 x.2 ht ?_;exact Wu _ hw.2.1 i x.1 (by rw[bn,hx];rfl)
   .cases h
  .rename_i cs _ _ fs hu;rw[hu];split at h
   .rename_i hlen
    cases hm:(fs.toList.mapM fun f=>DataW.trod enc P w 0 (fun _=>true) true k f.type ((cs.drop f.offset).take (P.cellsOf f.type))) with
    | none=>rw[hm]at h;cases h
    | some xs=>
     rw[hm]at h;simp only[a0,Option.some.injEq,Prod.mk.injEq]at h;obtain⟨rfl,_⟩:=h;obtain⟨l1,g1⟩:=Td hm;refine⟨hlen,fun f hf=>?_⟩;obtain⟨i,hi,Dv⟩:=List.mem_iff_getElem.1 hf;have hx:xs[i]? = G xs[i]:=a6 gX;have ZfL:fs.toList[i]? = G f:=by rw[a6 hi,Dv]
     refine Vd k _ _ xs[i].1 xs[i].2 (g1 i f xs[i] ZfL hx) ?_;simp only[DataW.weights,hu]at hw;exact Sc _ _ hw i f.type xs[i].1 (by rw[bn,ZfL];rfl) (by rw[bn,hx];rfl)
   .cases h
  .rename_i cs _ _ n e hu;rw[hu];split at h
   .rename_i hlen
    cases hm:((bo n).mapM fun i=>DataW.trod enc P w 0 (fun _=>true) true k e ((cs.drop (i*P.cellsOf e)).take (P.cellsOf e))) with
    | none=>rw[hm]at h;cases h
    | some xs=>
     rw[hm]at h;simp only[a0,Option.some.injEq,Prod.mk.injEq]at h;obtain⟨rfl,_⟩:=h;obtain⟨l1,g1⟩:=Td hm;rw[bS]at l1;refine⟨hlen,fun i hi=>?_⟩;have hx:xs[i]? = G xs[i]:=a6 gX;refine Vd k _ _ xs[i].1 xs[i].2 (g1 i i xs[i] (by rw[bE hi]) hx) ?_;simp only[DataW.weights,hu]at hw;exact Wu _ hw i xs[i].1 (by rw[bn,hx];rfl)
   .cases h
  all_goals first|(cases h;done)|(rename_i hu;rw[hu];trivial)
theorem wJ{w:am}{r:Reach}{base:Nat}{cs:Array D}(ha:ta P t=G false)(h:Value.okWide P w r base t (aI cs)):False:=by
 unfold ta at ha;unfold Value.okWide at h
 cases hu:P.underlying t with
 | none=>rw[hu]at ha;cases ha
 | some d=>
  rw[hu]at ha h
  cases d<;>simp at ha<;>simp[Cell.okWide,Cell.ok,hu]at h
theorem wM{H:Type}{enc:O × D->H}{w:am}{r:Reach}{base:Nat}{d:DataW H}{ps:List MemPlace}(Au:(ta P t).isSome=true)(XM:Value.okWide P w r base t v)(h:DataW.Trod enc P w 0 (fun _=>true) true t v d ps)(hw:(d.weights P t).all (· <= reachBytes)=true):∃k,iQ P w.heap k t v:=by
 obtain⟨k,hk⟩:=h;have hf:=Vd k t _ d ps hk hw;refine⟨k,?_⟩;unfold iQ
 cases ha:ta P t with
 | none=>rw[ha]at Au;cases Au
 | some b=>
  cases b with
  | true=>
   unfold ta at ha;unfold Value.okWide at XM
   cases hu:P.underlying t with
   | none=>rw[hu]at ha;cases ha
   | some d'=>
    rw[hu]at ha XM;have:∃cs,v=aI cs:=by
     cases d'<;>simp at ha<;>(obtain⟨cs,hv,_⟩:=XM;exact⟨cs,hv⟩)
    obtain⟨cs,rfl⟩:=this;exact⟨cs.toList,Dq,hf⟩
  | false=>
   have:v.cells.toList=[v]:=by
    cases v with
    | agg cs=>exact (wJ ha XM).elim
    | _=>rfl
   rw[this]at hf;exact hf
theorem GJ{H:Type}{enc:O × D->H}{w:am}{base:Nat}:∀(ts:List O) (vs:List D) (ds:List (DataW H)) (ps:List MemPlace),
  ts.all (fun t=>(ta P t).isSome)=true->(∀(j:Nat) t v,ts[j]? = G t->vs[j]? = G v->Value.okWide P w .any base t v)->DataW.TrodAll enc P w 0 (fun _=>true) true ts vs ds ps ->
  (DataW.weightsEach P ts ds).all (· <= reachBytes)=true->fitAll P w.heap ts vs
 | [],vs,ds,ps,_,_,h,_=>by
  obtain⟨rfl,rfl,rfl⟩:=trodAll_nil h;trivial
 | t :: ts,vs,ds,ps,ha,hv,h,hw=>by
  obtain⟨v,vs',d,ds',p,q,rfl,rfl,rfl,h1,h2⟩:=trodAll_cons h;simp only[bw,aw]at ha;simp only[DataW.weightsEach,bA,aw]at hw;exact⟨wM ha.1 (hv 0 t v rfl rfl) h1 hw.1,GJ ts vs' ds' q ha.2 (fun j t v ht DT=>hv (j+1) t v ht DT) h2 hw.2⟩
theorem Px{H:Type}{enc:O × D->H}(hl:laidOutB P=true){W W':am}(hb:Below W.heap.size W W'):∀(ts:List O) (vs:List D) (ds:List (DataW H)) (ps:List MemPlace),
  ts.all (fun t=>P.readableRec t&&decide (t<P.types.size))=true->DataW.TrodAll enc P W 0 (fun _=>true) true ts vs ds ps->(∀x∈ps,x.block<W.heap.size) ->
  DataW.TrodAll enc P W' 0 (fun b=>decide (b<W.heap.size)) true ts vs ds ps
 | [],vs,ds,ps,_,h,_=>by
  obtain⟨rfl,rfl,rfl⟩:=trodAll_nil h;rfl
 | t :: ts,vs,ds,ps,ha,h,ZL=>by
  obtain⟨v,vs',d,ds',p,q,rfl,rfl,rfl,h1,h2⟩:=trodAll_cons h;simp only[bw,aw,decide_eq_true_eq]at ha;exact⟨p,q,Below.trod hl ha.1.1 ha.1.2 h1 hb (fun x hx=>ZL x (by simp[hx])),Px hl hb ts vs' ds' q ha.2 h2 (fun x hx=>ZL x (by simp[hx])),rfl⟩
theorem SD{H:Type}{enc:O × D->H}{w:am}{sp:Nat->Bool}{hd:Bool}:∀(ts:List O) (vs:List D) (ds:List (DataW H)) (ps:List MemPlace),DataW.TrodAll enc P w b sp hd ts vs ds ps->(M ds)=(M ts)
 | [],vs,ds,ps,h=>by obtain⟨rfl,rfl,rfl⟩:=trodAll_nil h;rfl
 | t :: ts,vs,ds,ps,h=>by
  obtain⟨v,vs',d,ds',p,q,rfl,rfl,rfl,h1,h2⟩:=trodAll_cons h;simp[SD ts vs' ds' q h2]
theorem oQ{W W':am}(hs:Je W W' h')(hb:Zf W.heap.size W.heap h'):Below W.heap.size W W':=
 ⟨hs.os,hs.tape,hs.output,by rw[hs.heap];exact hb.size,fun k hk=>by rw[hs.heap];exact hb.block k hk⟩
theorem oR{rest:List (List Char)}(h:behindMainWord (wordsSigns P.initOrder.toList) = "cut".toList :: rest):P.make=G .cut:=by
 unfold Program.make;rw[h];simp only;rw[if_neg MZ,if_pos (by rfl)]
theorem GK(rest:List (List Char)):stripLifts liftWords ("cut".toList :: rest)=([], "cut".toList :: rest):=by rfl
theorem iS{rest:List (List Char)}(h:behindMainWord (wordsSigns P.initOrder.toList) = "cut".toList :: rest):P.liftsFinal=false:=by
 unfold Program.liftsFinal Program.headLifts;rw[h,GK];rfl
theorem iU{rest:List (List Char)}(h:behindMainWord (wordsSigns P.initOrder.toList) = "cut".toList :: rest)(h1:P.laysLater=false)(h2:P.bearsReflect=false)(h3:P.doorFits []=true):P.mayEnter=true:=by
 unfold Program.mayEnter;rw[h];simp only[GK,h1,h2,h3];rw[Bool.or_eq_true];exact .inr rfl
theorem iW{L:List Char}(h:P.initOrder=String.ofList L)(h2:((behindMainWord (wordsSigns L)).head? == G "cut".toList)=true):∃rest,behindMainWord (wordsSigns P.initOrder.toList) = "cut".toList :: rest:=by
 rw[h,String.toList_ofList]
 revert h2
 cases behindMainWord (wordsSigns L) with
 | nil=>intro h;cases h
 | cons a l=>
  intro h;have h':a = "cut".toList:=by
   have:=eq_of_beq h
   simpa using this
  exact⟨l,by rw[h']⟩
attribute [go_sem ↓] reduceIte
end Go.V
