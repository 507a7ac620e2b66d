/- Part V9. -/
import Derived.Calls
import Derived.OrdersHeld
import Derived.Still
import Derived.Tactics
import Derived.Laws.Sem
import Derived.KernelRfl
import Derived.IntWalk
import Derived.Laws.Strings
import Derived.WalkKit
import Derived.ProofKit
import Derived.OpenShut
import Derived.SizedLaws
import Derived.JoinedCond
import Derived.Deep.CondSized
import Derived.Carry
open Go.Value renaming pointer→J,slice→Z,bool→al,agg→aU
open Go.Obj renaming cells→Y
open List renaming length→M,eq_nil_of_length_eq_zero→a1,getElem?_eq_getElem→a6,length_cons→be,length_append→bh,getElem?_map→bl,range→bn,all_cons→br,all_append→bz,length_pos_iff→bA,getElem?_range→bB,mapM_cons→bG,getD_eq_getElem?_getD→bR,getElem?_append_left→bS,length_range→b1,all_eq_true→b2,getElem?_cons_zero→b4,getElem?_cons_succ→b5,getElem?_toArray→cc,drop_succ_cons→ch,set_cons_zero→cn,set_cons_succ→co,mapM_toArray→cq,size_toArray→cu,length_drop→cw,cons_append→cy,range'→cz,length_nil→cR,mapM_nil→cT,map_cons→cV
open Nat renaming mod_eq_of_lt→a8,mul_le_mul_right→a9,add_mul→bk,le_refl→bw,pow_le_pow_right→bx,zero_add→b7,add_assoc→ck,add_zero→cr,add_comm→ct,sub_mul→cA,min_eq_left→cS,ble→c0
open Int renaming toNat_natCast→cv
open Option renaming bind_some→au,map_some→a0,isSome_none→bK,some→G,none→U
open Array renaming getElem?_setIfInBounds→aw,getElem?_push→a2,getElem?_eq_some_iff→a4,ext_getElem?→bb,toList_setIfInBounds→bc,getElem?_eq_getElem→bf,size_push→bg,toList_map→bo,getD_eq_getD_getElem?→bC,range→bT,toList_inj→b3,getElem?_eq_none→b6,mem_of_getElem?→b9,getElem?_toList→ca,toArray_toList→cf,replicate→cP,zipIdx→c1
open Bool renaming and_eq_true→aI,false_eq_true→a3
open Go.IntWalk renaming i64_in→cg
open Go.Builtin renaming nextslicecap→a7,growBy→bd,zeroCells→b0,append_→b8,len_→c2
open Go.Region renaming ready→ba,wanted→bp,noSelect_spec→cd,binds→cp,free_spec→cx,noSelect→cB
open Go renaming Value→D,TypeId→O,Program→aa,World→am,Operand→a5
namespace Go.V
theorem nc{p:Prop}(h:p:=by omega):p:=h
theorem uf{p:Prop}(h:p:=by kernel_rfl):p:=h
theorem Hg{p:Prop}(h:p:=by simp):p:=h
theorem Ih{p:Prop}(h:p:=by intro e;cases e):p:=h
theorem KQ{p:Prop}(h:p:=by simp;omega):p:=h
theorem aaa{p:Prop}(h:p:=by decide):p:=h
theorem aab{p:Prop}(h:p:=by first|omega|(simp;omega)):p:=h
theorem aac{p:Prop}(h:p:=by assumption):p:=h
theorem aad{p:Prop}(h:p:=by rw[List.length_take];omega):p:=h
theorem aae{p:Prop}(h:p:=by rw[cw];omega):p:=h
theorem aaf{p:Prop}(h:p:=by simp only[a2,bg,IntWalk.iteOmega,↓reduceIte]):p:=h
theorem aag{p:Prop}(h:p:=by rw[bh];omega):p:=h
theorem aah{p:Prop}(h:p:=by simp only[bg];omega):p:=h
theorem aai{p:Prop}(h:p:=by simp only[List.length_singleton];omega):p:=h
theorem aaj{p:Prop}(h:p:=by intro q;cases q):p:=h
variable{B b cap i len m n o:Nat}{E e t:O}{P:aa}{a:Addr}{cs l:List D}{d:Option Tmp}{k:IntKind}{lo:Option D}{ops:List Oper}{parts:List (Nat × D)}{place:Nat->Option (Nat × Nat)}{v:D}{x y:a5}{α:Type}
theorem ZQ(x:α):∃y,y=x:=⟨x,rfl⟩
abbrev Env:=Nat->D
def upd(F:Env)(d:Nat)(v:D):Env:=fun t=>if t=d then v else F t
def Yz(F:Env):Option Nat->D->Env
 | none,_=>F
 | some d,v=>upd F d v
def ev(F:Env):a5->D
 | .tmp t=>F t
 | .const v=>v
 | .global g=>J (G ⟨g,0,U⟩)
 | .func f=>.func (.func f) #[] #[]
def IY:List D->Nat->Env
 | [],_=>fun _=>undef
 | v :: l,k=>upd (IY l (k+1)) k v
def env(a:Act):Env:=fun t=>a.tmps.getD t undef
theorem Ad(a:Act):a.eval=ev (env a):=by
 funext x;cases x<;>rfl
theorem Hj(a:Act)(dst:Option Nat)(v:D)(h:∀d,dst=G d->d<a.tmps.size):env (a.put dst v)=Yz (env a) dst v:=by
 cases dst with
 | none=>rfl
 | some d=>
  funext t
  have hd:=h d rfl;simp only[env,Act.put,Yz,upd,bC,aw];by_cases htd:d=t
  .subst htd;simp[hd]
  .rw[if_neg htd,if_neg (fun h=>htd h.symm)]
theorem Mq(a:Act)(dst:Option Nat)(v:D):(a.put dst v).tmps.size=a.tmps.size:=by
 cases dst<;>simp[Act.put]
abbrev Hp:=Array Obj
variable{N:Env->Hp->Prop}{Q:D->Hp->Prop}{h h':Hp}
structure Sj(T:am)(w:am)(h:Hp):Prop where
 heap:w.heap=h
 tape:w.tape=T.tape
 os:w.os=T.os
 output:w.output=T.output
def hc(h:Hp)(a:Addr):Option D:=
 match h[a.block]? with
 | some (Y c _ _)=>if a.spot.isSome then U else c[a.off]?
 | _=>U
def V7(h:Hp)(r:Nat):Option (O × Nat):=
 match h[r]? with
 | some (Y c elem _)=>G (elem,c.size)
 | _=>U
def ug(h:Hp)(a:Addr):Bool:=
 match h[a.block]? with
 | some (Y _ _ (lo,hi))=>lo<=a.off&&a.off<hi
 | _=>false
def ng(h:Hp)(a:Addr)(v:D):Hp:=
 h.modify a.block fun
  | Y c elem frozen=>Y (if a.spot.isSome then c else c.setIfInBounds a.off v) elem frozen
  | o=>o
def Ru(h:Hp)(a:Addr)(n:Nat):Hp:=
 if n=0 then h else
 h.modify a.block fun
  | Y c elem (lo,hi)=>Y c elem (if lo == hi then (a.off,a.off+n) else (min lo a.off,max hi (a.off+n)))
  | o=>o
def Hk:Obj->Bool
 | .cells .. => true
 | _=>false
def YC:D->Bool
 | aU _|.tuple _=>false
 | _=>true
def hw{α:Type}(P:aa):Sem α->(α->Hp->Prop)->Hp->Prop
 | .pure a,Q,h=>Q a h
 | .load _ a k,Q,h=>∃v,hc h a=G v/\hw P (k v) Q h
 | .store _ a v k,Q,h=>YC v=true/\(∃u,hc h a=G u)/\ug h a=false/\hw P k Q (ng h a v)
 | .new o k,Q,h=>hw P (k h.size) Q (h.push o)
 | .shape r k,Q,h=>hw P (k (V7 h r)) Q h
 | .freeze a n k,Q,h=>hw P k Q (Ru h a n)
 | .frozen a k,Q,h=>hw P (k (ug h a)) Q h
 | .getObj r k,Q,h=>∃o,h[r]? = G o/\Hk o=false/\hw P (k o) Q h
 | .setObj r o k,Q,h=>(∃o',h[r]? = G o'/\Hk o'=false)/\hw P k Q (h.setIfInBounds r o)
 | .choose q k,Q,h=>if q.forced then hw P (k 0) Q h else ∀t,hw P (k (q.cut t)) Q h
 | .sys _ _,_,_=>False
 | .program k,Q,h=>hw P (k P) Q h
 | .mark _ k,Q,h=>hw P k Q h
 | .halt _,_,_=>False
theorem uh{T:am}:∀(s:Sem α) (Q:α->Hp->Prop) (h:Hp),hw P s Q h->∀w,Sj T w h ->
  ∃a w' h',s.run P w=.ok a w'/\Sj T w' h'/\Q a h':=by
 intro s
 induction s with
 | pure a=>intro Q h H w hs;exact⟨a,w,h,rfl,hs,H⟩
 | load m a k ih=>
  intro Q h H w hs;obtain⟨v,hv,H⟩:=H;obtain⟨a',w',h',hr,r⟩:=ih v Q h H w hs;refine⟨a',w',h',?_,r⟩;have:w.cell? a=G v:=by rw[World.cell?,hs.heap];exact hv
  rw[Sem.run,this];exact hr
 | store m a v k ih=>
  intro Q h H w hs;obtain⟨h1,⟨u,h2⟩,h3,H⟩:=H;have Px:Sj T (w.setCell a v) (ng h a v):=⟨by simp only[World.setCell,ng,hs.heap];rfl,hs.tape,hs.os,hs.output⟩
  obtain⟨a',w',h',hr,r⟩:=ih Q _ H _ Px;refine⟨a',w',h',?_,r⟩;have e1:w.cell? a=G u:=by rw[World.cell?,hs.heap];exact h2
  have e2:w.frozen? a=false:=by rw[World.frozen?,hs.heap];exact h3
  cases v<;>first|(simp[YC]at h1;done)|(simp only[Sem.run,e1,e2,a3,if_false];exact hr)
 | new o k ih=>
  intro Q h H w hs;have Px:Sj T { w with heap:=w.heap.push o } (h.push o):=⟨by simp only[hs.heap],hs.tape,hs.os,hs.output⟩
  have e:w.heap.size=h.size:=by rw[hs.heap]
  obtain⟨a',w',h',hr,r⟩:=ih h.size Q _ H _ Px;refine⟨a',w',h',?_,r⟩;rw[Sem.run,e];exact hr
 | shape r k ih=>
  intro Q h H w hs;obtain⟨a',w',h',hr,r'⟩:=ih _ Q h H w hs;refine⟨a',w',h',?_,r'⟩;have:w.shape? r=V7 h r:=by rw[World.shape?,hs.heap];rfl
  rw[Sem.run,this];exact hr
 | freeze a n k ih=>
  intro Q h H w hs;have Px:Sj T (w.freeze a n) (Ru h a n):=by
   unfold World.freeze Ru;split
   .exact hs
   .exact⟨by simp only[hs.heap];rfl,hs.tape,hs.os,hs.output⟩
  obtain⟨a',w',h',hr,r'⟩:=ih Q _ H _ Px;exact⟨a',w',h',by rw[Sem.run];exact hr,r'⟩
 | frozen a k ih=>
  intro Q h H w hs;obtain⟨a',w',h',hr,r'⟩:=ih _ Q h H w hs;refine⟨a',w',h',?_,r'⟩;have:w.frozen? a=ug h a:=by rw[World.frozen?,hs.heap];rfl
  rw[Sem.run,this];exact hr
 | getObj r k ih=>
  intro Q h H w hs;obtain⟨o,ho,hc,H⟩:=H;obtain⟨a',w',h',hr,r'⟩:=ih o Q h H w hs;refine⟨a',w',h',?_,r'⟩;have e:w.heap[r]? = G o:=by rw[hs.heap];exact ho
  simp only[Sem.run,e]
  cases o<;>first|(simp[Hk]at hc;done)|exact hr
 | setObj r o k ih=>
  intro Q h H w hs;obtain⟨⟨o',ho,hc⟩,H⟩:=H;have Px:Sj T { w with heap:=w.heap.setIfInBounds r o } (h.setIfInBounds r o):=⟨by simp only[hs.heap],hs.tape,hs.os,hs.output⟩
  obtain⟨a',w',h',hr,r'⟩:=ih Q _ H _ Px;refine⟨a',w',h',?_,r'⟩;have e:w.heap[r]? = G o':=by rw[hs.heap];exact ho
  simp only[Sem.run,e]
  cases o'<;>first|(simp[Hk]at hc;done)|exact hr
 | choose q k ih=>
  intro Q h H w hs;simp only[hw]at H;split at H
  .rename_i hq;obtain⟨a',w',h',hr,r'⟩:=ih _ Q h H w hs;exact⟨a',w',h',by rw[Sem.run,if_pos hq];exact hr,r'⟩
  .rename_i hq;have Px:Sj T { w with drawn:=w.drawn+1 } h:=⟨hs.heap,hs.tape,hs.os,hs.output⟩
   obtain⟨a',w',h',hr,r'⟩:=ih _ Q h (H (w.tape w.drawn q)) _ Px;exact⟨a',w',h',by rw[Sem.run,if_neg hq];exact hr,r'⟩
 | sys c k ih=>intro Q h H;exact H.elim
 | program k ih=>
  intro Q h H w hs;obtain⟨a',w',h',hr,r'⟩:=ih _ Q h H w hs;exact⟨a',w',h',by rw[Sem.run];exact hr,r'⟩
 | mark m k ih=>
  intro Q h H w hs;obtain⟨a',w',h',hr,r'⟩:=ih Q h H w hs;exact⟨a',w',h',by rw[Sem.run];exact hr,r'⟩
 | halt x=>intro Q h H;exact H.elim
theorem Zm{β:Type}(s:Sem α)(f:α->Sem β)(Q:β->Hp->Prop):∀h,hw P (s >>= f) Q h=hw P s (fun a h'=>hw P (f a) Q h') h:=by
 show ∀h,hw P (s.bind f) Q h=_
 induction s with
 | pure a=>intro h;rfl
 | load m a k ih=>intro h;simp only[Sem.bind,hw,ih]
 | store m a v k ih=>intro h;simp only[Sem.bind,hw,ih]
 | new o k ih=>intro h;simp only[Sem.bind,hw,ih]
 | shape r k ih=>intro h;simp only[Sem.bind,hw,ih]
 | freeze a n k ih=>intro h;simp only[Sem.bind,hw,ih]
 | frozen a k ih=>intro h;simp only[Sem.bind,hw,ih]
 | getObj r k ih=>intro h;simp only[Sem.bind,hw,ih]
 | setObj r o k ih=>intro h;simp only[Sem.bind,hw,ih]
 | choose q k ih=>intro h;simp only[Sem.bind,hw,ih]
 | sys c k ih=>intro h;simp only[Sem.bind,hw]
 | program k ih=>intro h;simp only[Sem.bind,hw,ih]
 | mark m k ih=>intro h;simp only[Sem.bind,hw,ih]
 | halt x=>intro h;rfl
theorem kr{Q Q':α->Hp->Prop}(hq:∀a h,Q a h->Q' a h):∀(s:Sem α) (h:Hp),hw P s Q h->hw P s Q' h:=by
 intro s
 induction s with
 | pure a=>intro h H;exact hq _ _ H
 | load m a k ih=>intro h H;obtain⟨v,hv,H⟩:=H;exact⟨v,hv,ih _ _ H⟩
 | store m a v k ih=>intro h H;obtain⟨h1,h2,h3,H⟩:=H;exact⟨h1,h2,h3,ih _ H⟩
 | new o k ih=>intro h H;exact ih _ _ H
 | shape r k ih=>intro h H;exact ih _ _ H
 | freeze a n k ih=>intro h H;exact ih _ H
 | frozen a k ih=>intro h H;exact ih _ _ H
 | getObj r k ih=>intro h H;obtain⟨o,h1,h2,H⟩:=H;exact⟨o,h1,h2,ih _ _ H⟩
 | setObj r o k ih=>intro h H;obtain⟨h1,H⟩:=H;exact⟨h1,ih _ H⟩
 | choose q k ih=>
  intro h H;simp only[hw]at H ⊢;split at H
  .rename_i hf;rw[if_pos hf];exact ih _ _ H
  .rename_i hf;rw[if_neg hf];exact fun t=>ih _ _ (H t)
 | sys c k ih=>intro h H;exact H
 | program k ih=>intro h H;exact ih _ _ H
 | mark m k ih=>intro h H;exact ih _ H
 | halt x=>intro h H;exact H
def Zd(P:aa)(T:am)(f:FuncId)(args:Array D)(h:Hp)(Q:D->Hp->Prop):Prop:=
 ∀w,Sj T w h->Calls P f args w fun e w'=>∃v h',e=.returned v/\Sj T w' h'/\Q v h'
theorem Zd.mono{T:am}{f:FuncId}{args:Array D}{Q':D->Hp->Prop}(H:Zd P T f args h Q)(hq:∀v h',Q v h'->Q' v h'):Zd P T f args h Q':=
 fun w hs=>(H w hs).mono fun _ _ ⟨v,h',he,Px,q⟩=>⟨v,h',he,Px,hq _ _ q⟩
def Jt(P:aa)(T:am)(K:D->Hp->Prop):Next->Hp->Prop
 | .value v,h=>K v h
 | .skip,h=>K undef h
 | .enter f args,h=>Zd P T f args h K
 | _,_=>False
def Ee(P:aa)(T:am)(o:Oper)(K:D->Hp->Prop)(F:Env)(h:Hp):Prop:=
 hw P (execOp (ev F) o) (Jt P T K) h
theorem HP{T:am}{K K':D->Hp->Prop}(hk:∀v h,K v h->K' v h):∀(x:Next) (h:Hp),Jt P T K x h->Jt P T K' x h:=by
 intro x h H
 cases x<;>simp only[Jt]at H ⊢<;>first|exact hk _ _ H|exact H.mono hk
theorem Mr{T:am}{o:Oper}{K K':D->Hp->Prop}{F:Env}(hk:∀v h,K v h->K' v h)(H:Ee P T o K F h):Ee P T o K' F h:=
 kr (HP hk) _ _ H
theorem ES{T:am}{o:Oper}{K:D->Hp->Prop}{F:Env}(H:Ee P T o K F h){a:Act}{w:am}(hF:env a=F)(hs:Sj T w h){next:Act->am->Prop}{Q:Exit->Act->am->Prop}(hk:∀v w' h',Sj T w' h'->K v h'->next (a.put o.dst v) w'):o.wp P a w next Q:=by
 obtain⟨x,w',h',hr,Px,hx⟩:=uh _ _ _ H w hs;unfold Oper.wp;rw[Ad,hF,hr]
 cases x<;>simp only[Jt]at hx
 case value v=>exact hk _ _ _ Px hx
 case skip=>exact hk _ _ _ Px hx
 case enter f args=>
  simp only[Oper.upon];exact (hx w' Px).mono fun e w'' ⟨v,LW,he,Zp0,q⟩=>by subst he;exact hk _ _ _ Zp0 q
def WS(ops:Array Oper)(F:Env)(j:Nat):Option Bool:=
 match (ops[j]?).bind (·.dst) with
 | some t=>match F t with
  | al b=>G b
  | _=>U
 | none=>U
def YI(ops:Array Oper)(o:Oper)(F:Env):Bool:=bp o (WS ops F)
def ui(n:Nat)(o:Oper):Bool:=match o.dst with|some d=>Nat.blt d n|none=>true
def KT(n:Nat)(ops:Array Oper):Bool:=ops.toList.all (ui n)
theorem Ny{o:Oper}(h:ui n o=true):∀d,o.dst=G d->d<n:=by
 intro d hd;unfold ui at h;rw[hd]at h;exact Nat.blt_eq.mp h
theorem KU{ops:Array Oper}(Uk:KT n ops=true)(a:Act)(hn:a.tmps.size=n):yielded ops a.tmps=WS ops (env a):=by
 funext j
 unfold yielded WS
 cases hj:ops[j]? with
 | none=>rfl
 | some o=>
  simp only[au]
  cases hd:o.dst with
  | none=>rfl
  | some d=>
   have ZU:d<a.tmps.size:=by
    rw[hn];have hm:o∈ops.toList:=by
     have:=b9 hj
     simpa using this
    exact Ny (b2.1 Uk o hm) d hd
   simp only[au];rw[bf ZU];have:env a d=a.tmps[d]:=by simp[env,ZU]
   rw[this]
   cases a.tmps[d]<;>rfl
def nh(P:aa)(T:am)(ops:Array Oper)(N:Env->Hp->Prop):List Oper->Env->Hp->Prop
 | [],F,h=>N F h
 | o :: l,F,h=>
  if YI ops o F then Ee P T o (fun v h'=>nh P T ops N l (Yz F o.dst v) h') F h
  else nh P T ops N l (Yz F o.dst undef) h
def Zbm(n:Nat)(T:am)(N:Env->Hp->Prop)(X:Nat->Env->Hp->Prop)(R:Env->Hp->Prop)(e:Exit)(a:Act)(w:am):Prop:=
 a.tmps.size=n/\a.defers=[]/\∃h,Sj T w h/\match e with
  | .normal=>N (env a) h
  | .exit j=>X j (env a) h
  | .ret=>R (env a) h
  | _=>False
def VS(P:aa)(n:Nat)(T:am)(c:Code)(N:Env->Hp->Prop)(X:Nat->Env->Hp->Prop)(R:Env->Hp->Prop)(F:Env)(h:Hp):Prop:=
 ∀a w,a.tmps.size=n->a.defers=[]->env a=F->Sj T w h->c.wp P (Zbm n T N X R) a w
section
variable {P:aa} {n:Nat} {T:am} {N:Env->Hp->Prop} {X:Nat->Env->Hp->Prop} {R:Env->Hp->Prop} {F:Env} {h:Hp}
theorem VS.mono{c:Code}{N':Env->Hp->Prop}{X':Nat->Env->Hp->Prop}{R':Env->Hp->Prop}(H:VS P n T c N X R F h)(hN:∀F h,N F h->N' F h)(hX:∀j F h,X j F h->X' j F h)(hR:∀F h,R F h->R' F h):VS P n T c N' X' R' F h:=by
 intro a w h1 h2 h3 h4;refine Code.wp_mono (fun e a w ⟨q1,q2,h,q3,q4⟩=>⟨q1,q2,h,q3,?_⟩) (H a w h1 h2 h3 h4)
 cases e<;>simp only at q4 ⊢<;>first|exact hN _ _ q4|exact hX _ _ _ q4|exact hR _ _ q4
theorem VS.seq{c d:Code}(H:VS P n T c (fun F h=>VS P n T d N X R F h) X R F h):VS P n T (.seq c d) N X R F h:=by
 intro a w h1 h2 h3 h4;refine wp_seq (Code.wp_mono (fun e a w ⟨q1,q2,h,q3,q4⟩=>?_) (H a w h1 h2 h3 h4))
 cases e with
 | normal=>exact q4 a w q1 q2 rfl q3
 | exit j=>exact⟨q1,q2,h,q3,q4⟩
 | ret=>exact⟨q1,q2,h,q3,q4⟩
 | _=>exact q4.elim
theorem VS.skip(H:N F h):VS P n T .skip N X R F h:=by
 intro a w h1 h2 h3 h4;exact wp_skip ⟨h1,h2,h,h4,by rw[h3];exact H⟩
theorem VS.ret(H:R F h):VS P n T .ret N X R F h:=by
 intro a w h1 h2 h3 h4;exact wp_ret ⟨h1,h2,h,h4,by rw[h3];exact H⟩
theorem VS.exit{j:Nat}(H:X j F h):VS P n T (.exit j) N X R F h:=by
 intro a w h1 h2 h3 h4;exact wp_exit ⟨h1,h2,h,h4,by rw[h3];exact H⟩
theorem VS.block{j:Nat}{c:Code}(H:VS P n T c N (fun i F h=>if i=j then N F h else X i F h) R F h):VS P n T (.block j c) N X R F h:=by
 intro a w h1 h2 h3 h4;refine wp_block (Code.wp_mono (fun e a w ⟨q1,q2,h,q3,q4⟩=>?_) (H a w h1 h2 h3 h4))
 cases e with
 | normal=>exact⟨q1,q2,h,q3,q4⟩
 | exit i=>
  simp only[Exit.inBlock];simp only at q4;split
  .rename_i tp;rw[if_pos tp]at q4;exact⟨q1,q2,h,q3,q4⟩
  .rename_i tp;rw[if_neg tp]at q4;exact⟨q1,q2,h,q3,q4⟩
 | ret=>exact⟨q1,q2,h,q3,q4⟩
 | _=>exact q4.elim
theorem VS.cond{c:a5}{x y:Code}{b:Bool}(hc:ev F c=al b)(ht:b=true->VS P n T x N X R F h)(hf:b=false->VS P n T y N X R F h):
  VS P n T (.cond c x y) N X R F h:=by
 intro a w h1 h2 h3 h4;refine wp_cond_split (t:=b) (by rw[Ad,h3];exact hc) (fun hb=>ht hb a w h1 h2 h3 h4) (fun hb=>hf hb a w h1 h2 h3 h4)
theorem VS.loop{c:Code}(I:Env->Hp->Prop)(μ:Env->Hp->Nat)(h0:I F h)(round:∀F h,I F h->VS P n T c (fun F' h'=>I F' h'/\μ F' h'<μ F h) X R F h):VS P n T (.loop c) N X R F h:=by
 intro a w h1 h2 h3 h4;refine wp_loop (fun a w=>a.tmps.size=n/\a.defers=[]/\Sj T w w.heap/\I (env a) w.heap) (fun a w=>μ (env a) w.heap)
  ⟨h1,h2,by rw[h4.heap];exact h4,by rw[h3,h4.heap];exact h0⟩ ?_
 intro a w ⟨q1,q2,q3,q4⟩;refine Code.wp_mono (fun e a' w' ⟨p1,p2,h',p3,p4⟩=>?_) (round (env a) w.heap q4 a w q1 q2 rfl q3)
 cases e with
 | normal=>
  have e:=p3.heap;subst e;exact⟨⟨p1,p2,p3,p4.1⟩,p4.2⟩
 | exit j=>exact⟨p1,p2,h',p3,p4⟩
 | ret=>exact⟨p1,p2,h',p3,p4⟩
 | _=>exact p4.elim
theorem Ta{ops:Array Oper}(Uk:KT n ops=true):∀(l:List Oper) (F:Env) (h:Hp),(∀o∈l,o∈ops.toList)->nh P T ops N l F h ->
  ∀a w,a.tmps.size=n->a.defers=[]->env a=F->Sj T w h->wpList P ops (Zbm n T N X R) l a w
 | [],F,h,_,H,a,w,h1,h2,h3,h4=>⟨h1,h2,h,h4,by rw[h3];exact H⟩
 | o :: l,F,h,hm,H,a,w,h1,h2,h3,h4=>by
  have hd:∀d,o.dst=G d->d<a.tmps.size:=by
   rw[h1];exact Ny (b2.1 Uk o (hm o Hg))
  have Hl:∀o∈l,o∈ops.toList:=fun x hx=>hm x (by simp[hx]);have HQ:bp o (yielded ops a.tmps)=YI ops o F:=by rw[KU Uk a h1,h3];rfl
  unfold wpList;rw[HQ];unfold nh at H;split at H
  .rename_i hw;rw[if_pos hw];refine .inl (ES H h3 h4 fun v w' h' Px hk=>?_);exact Ta Uk l _ h' Hl hk _ _ (by rw[Mq,h1]) (by cases o.dst<;>exact h2) (by rw[Hj a _ _ hd,h3]) Px
  .rename_i hw;rw[if_neg hw];exact Ta Uk l _ h Hl H _ _ (by rw[Mq,h1]) (by cases o.dst<;>exact h2) (by rw[Hj a _ _ hd,h3]) h4
theorem VS.region{id:Nat}{ops:Array Oper}(Uk:KT n ops=true)(H:nh P T ops N ops.toList F h):VS P n T (.region id ops false) N X R F h:=by
 intro a w h1 h2 h3 h4;exact wp_region_list (Ta Uk ops.toList F h (fun _ h=>h) H a w h1 h2 h3 h4)
def Uq(P:aa)(T:am)(ops:Array Oper)(i:Nat)(K:Env->Hp->Prop)(F:Env)(h:Hp):Prop:=
 match ops[i]? with
 | none=>K F h
 | some o=>if YI ops o F then Ee P T o (fun v h'=>K (Yz F o.dst v) h') F h else K (Yz F o.dst undef) h
theorem J9{ops:Array Oper}{K K':Env->Hp->Prop}(hk:∀F h,K F h->K' F h){F:Env}(H:Uq P T ops i K F h):Uq P T ops i K' F h:=by
 unfold Uq at *;split at H
 .exact hk _ _ H
 .split at H
  .rename_i hw;rw[if_pos hw];exact Mr (fun _ _ q=>hk _ _ q) H
  .rename_i hw;rw[if_neg hw];exact hk _ _ H
def eJ(P:aa)(T:am)(ops:Array Oper)(S:Hp->Prop)(N:Env->Hp->Prop):Nat->Array Bool->Env->Hp->Prop
 | 0,listed,F,h=>ba .any ops listed=[]/\N F h
 | k+1,listed,F,h=>(ba .any ops listed=[]->N F h) /\
   ∀i∈ba .any ops listed,Uq P T ops i (fun F' h'=>S h'/\eJ P T ops S N k (listed.setIfInBounds i true) F' h') F h
theorem QE{ops:Array Oper}{S:Hp->Prop}(Uk:KT n ops=true):∀(k:Nat) (listed:Array Bool) (F:Env) (h:Hp),eJ P T ops S N k listed F h ->
  ∀a w,a.tmps.size=n->a.defers=[]->env a=F->Sj T w h->wpAny P .any ops (Zbm n T N X R) k listed a w
 | 0,listed,F,h,H,a,w,h1,h2,h3,h4=>⟨H.1,h1,h2,h,h4,by rw[h3];exact H.2⟩
 | k+1,listed,F,h,H,a,w,h1,h2,h3,h4=>by
  refine⟨fun h0=>⟨h1,h2,h,h4,by rw[h3];exact H.1 h0⟩,fun i hi=>?_⟩;have Hi:=H.2 i hi;unfold Uq at Hi;unfold wpOp
  cases ho:ops[i]? with
  | none=>rw[ho]at Hi;exact QE Uk k _ F h Hi.2 a w h1 h2 h3 h4
  | some o=>
   rw[ho]at Hi;simp only at Hi ⊢;have hd:∀d,o.dst=G d->d<a.tmps.size:=by
    rw[h1];exact Ny (b2.1 Uk o (by have:=b9 ho;simpa using this))
   have HQ:bp o (yielded ops a.tmps)=YI ops o F:=by rw[KU Uk a h1,h3];rfl
   rw[HQ];split at Hi
   .rename_i hw;rw[if_pos hw];refine .inl (ES Hi h3 h4 fun v w' h' Px hk=>?_);exact QE Uk k _ _ h' hk.2 _ _ (by rw[Mq,h1]) (by cases o.dst<;>exact h2) (by rw[Hj a _ _ hd,h3]) Px
   .rename_i hw;rw[if_neg hw];exact QE Uk k _ _ h Hi.2 _ _ (by rw[Mq,h1]) (by cases o.dst<;>exact h2) (by rw[Hj a _ _ hd,h3]) h4
def U0(P:aa)(T:am)(ops:Array Oper)(S:Hp->Prop)(o:Oper)(v:D)(F:Env):Prop:=
 (YI ops o F=true/\∀h,S h->Ee P T o (fun v' h'=>v'=v/\h'=h) F h)\/(YI ops o F=false/\v=undef)
theorem Zbn{F:Env}{dst:Option Nat}(hx:∀d,dst=G d->x ≠ .tmp d):ev (Yz F dst v) x=ev F x:=by
 cases dst with
 | none=>rfl
 | some d=>
  cases x with
  | tmp t=>
   have Y4:t≠d:=fun e=>hx d rfl (by rw[e]);show (if t=d then v else F t)=F t;rw[if_neg Y4]
  | _=>rfl
theorem KV{ops:Array Oper}(o:Oper)(hs:∀cs b,o.op ≠ .select cs b)(F:Env)(dst:Option Nat)(v:D)(h:∀d,dst=G d->d ∉ o.looksAt ops):
  execOp (ev (Yz F dst v)) o=execOp (ev F) o:=
 execOp_congr o hs fun x hx=>Zbn fun d hd hxd=>h d hd (by
  subst hxd;exact List.mem_append_left _ (List.mem_filterMap.2 ⟨.tmp d,by simpa using hx,rfl⟩))
theorem Ms{ops:Array Oper}(o:Oper)(F:Env)(dst:Option Nat)(v:D)(h:∀d,dst=G d->d ∉ o.looksAt ops):
  YI ops o (Yz F dst v)=YI ops o F:=by
 cases dst with
 | none=>rfl
 | some d=>
  unfold YI bp
  cases hg:o.guard with
  | none=>rfl
  | some gw=>
   obtain⟨g,want⟩:=gw;simp only;have hd:=h d rfl;unfold Oper.looksAt at hd;rw[hg]at hd;simp only[List.mem_append,not_or]at hd;have:WS ops (Yz F (G d) v) g=WS ops F g:=by
    unfold WS
    cases hb:(ops[g]?).bind (·.dst) with
    | none=>rfl
    | some t=>
     have Y4:t≠d:=fun e=>hd.2 (by rw[hb,e];simp);show (match (if t=d then v else F t) with|al b=>G b|_=>U)=_;rw[if_neg Y4]
   rw[this]
theorem ET(F:Env){d d':Option Nat}(v v':D)(h:∀x,d=G x->d'≠G x):Yz (Yz F d v) d' v'=Yz (Yz F d' v') d v:=by
 cases d with
 | none=>rfl
 | some x=>
  cases d' with
  | none=>rfl
  | some y=>
   have Y4:y≠x:=fun e=>h x rfl (by rw[e])
   funext t
   simp only[Yz,upd];by_cases h1:t=y
   .subst h1;rw[if_pos rfl,if_neg Y4,if_pos rfl]
   .rw[if_neg h1];by_cases h2:t=x
    .rw[if_pos h2,if_pos h2]
    .rw[if_neg h2,if_neg h2,if_neg h1]
theorem U0.put{ops:Array Oper}{S:Hp->Prop}{o:Oper}(hs:∀cs b,o.op ≠ .select cs b){F:Env}(hy:U0 P T ops S o v F){dst:Option Nat}{u:D}(h:∀d,dst=G d->d ∉ o.looksAt ops):U0 P T ops S o v (Yz F dst u):=by
 unfold U0 Ee at *;rw[Ms o F dst u h,KV o hs F dst u h];exact hy
theorem U0.opI{ops:Array Oper}{S:Hp->Prop}{o:Oper}{F:Env}(hi:ops[i]? = G o)(hy:U0 P T ops S o v F)(hS:S h){K:Env->Hp->Prop}(H:K (Yz F o.dst v) h):Uq P T ops i K F h:=by
 unfold Uq;rw[hi];rcases hy with⟨hw,hv⟩|⟨hw,rfl⟩
 .simp only[hw,if_true];exact Mr (fun v' h' ⟨e1,e2⟩=>by subst e1;subst e2;exact H) (hv h hS)
 .simp only[hw,a3,if_false];exact H
theorem HS{ops:Array Oper}{S:Hp->Prop}{j:Nat}{oi oj:Oper}(hj:ops[j]? = G oj)(hap:oi.apart ops oj=true)(hsi:∀cs b,oi.op ≠ .select cs b)(hsj:∀cs b,oj.op ≠ .select cs b){K:Env->Hp->Prop}{F:Env}(hy:U0 P T ops S oi v F)(H:Uq P T ops j K (Yz F oi.dst v) h):Uq P T ops j (fun F' h'=>U0 P T ops S oi v F'/\K (Yz F' oi.dst v) h') F h:=by
 obtain⟨h1,h2,h3⟩:=Oper.apart_spec hap;unfold Uq at *;rw[hj]at *;simp only at *;rw[Ms oj F oi.dst v h1]at H;split at H
 .rename_i hw;rw[if_pos hw];unfold Ee at *;rw[KV oj hsj F oi.dst v h1]at H;refine kr (HP fun u h' q=>?_) _ _ H;exact⟨hy.put hsi h3,by rw[<-ET F v u h2];exact q⟩
 .rename_i hw;rw[if_neg hw];exact⟨hy.put hsi h3,by rw[<-ET F v undef h2];exact H⟩
theorem HT{ops:Array Oper}{S:Hp->Prop}{oi:Oper}(hi:ops[i]? = G oi)(Af:∀(j:Nat) (o:Oper) cs b,ops[j]? = G o->o.op ≠ .select cs b):
  ∀(k:Nat) (listed:Array Bool) (F:Env) (h:Hp),
   (∀j oj,ops[j]? = G oj->j≠i->listed.getD j true=false->(∀e∈oj.after,cp .any e=true->e.on≠i)->oi.apart ops oj=true) ->
   i∈ba .any ops listed->U0 P T ops S oi v F->S h ->
   eJ P T ops S N k (listed.setIfInBounds i true) (Yz F oi.dst v) h->eJ P T ops S N (k+1) listed F h:=by
 intro k
 induction k with
 | zero=>
  intro listed F h _ hr hy hS H;refine⟨fun h=>(by rw[h]at hr;cases hr),fun j hj=>?_⟩;by_cases TO:j=i
  .subst TO;exact hy.opI hi hS ⟨hS,H⟩
  .have:=ready_mono hj TO;rw[H.1]at this
   cases this
 | succ k ih=>
  intro listed F h KW hr hy hS H;refine⟨fun h=>(by rw[h]at hr;cases hr),fun j hj=>?_⟩;by_cases TO:j=i
  .subst TO;exact hy.opI hi hS ⟨hS,H⟩
  .have h1:=H.2 j (ready_mono hj TO);obtain⟨Ag,oj,nj,XY⟩:=mem_ready.1 hj;have Ce:∀e∈oj.after,cp .any e=true->e.on≠i:=fun e he hb heq=>by
    have h1:=XY e he hb;have h0:=(mem_ready.1 hr).1;rw[heq]at h1;rcases Nat.lt_or_ge i listed.size with h'|h'
    .simp[h']at h0 h1;rw[h0]at h1;cases h1
    .simp[b6 h']at h1
   have h2:=HS nj (KW j oj nj TO Ag Ce) (fun cs b=>Af i oi cs b hi) (fun cs b=>Af j oj cs b nj) hy h1;have HU:∀k ok,ops[k]? = G ok->k≠i->(listed.setIfInBounds j true).getD k true=false ->
     (∀e∈ok.after,cp .any e=true->e.on≠i)->oi.apart ops ok=true:=fun k ok hk hki hun ku=>by
    refine KW k ok hk hki ?_ ku;by_cases kv:j=k
    .subst kv;exact Ag
    .rw[getD_set_ne true kv]at hun;exact hun
   refine J9 (fun F' h' h3=>⟨h3.2.1,ih (listed.setIfInBounds j true) F' h' HU (ready_mono hr (Ne.symm TO)) h3.1 h3.2.1 ?_⟩) h2;rw[Array.setIfInBounds_comm _ _ TO];exact h3.2.2
def Mt(P:aa)(T:am)(ops:Array Oper)(S:Hp->Prop)(N:Env->Hp->Prop):List (Nat × Bool × Oper)->Env->Hp->Prop
 | [],F,h=>N F h
 | (_,q,o) :: l,F,h=>
  if YI ops o F then
   if q then ∃v,(∀h',S h'->Ee P T o (fun v' LW=>v'=v/\LW=h') F h')/\Mt P T ops S N l (Yz F o.dst v) h
   else Ee P T o (fun v h'=>S h'/\Mt P T ops S N l (Yz F o.dst v) h') F h
  else Mt P T ops S N l (Yz F o.dst undef) h
def Vq(ops:Array Oper)(l:List (Nat × Bool)):List (Nat × Bool × Oper):=l.map fun (i,q)=>(i,q,ops.getD i default)
def HW(ops:Array Oper):List (Nat × Bool)->Array Bool->Bool
 | [],listed=>(ba .any ops listed).isEmpty
 | (i,q) :: l,listed=>
  (if q then (ba .any ops listed).contains i&&Region.free .any ops listed i else (ba .any ops listed == [i]))&&HW ops l (listed.setIfInBounds i true)
theorem Ur{ops:Array Oper}{S:Hp->Prop}(hs:cB ops=true):∀(l:List (Nat × Bool)) (listed:Array Bool) (F:Env) (h:Hp),HW ops l listed=true->S h ->
  Mt P T ops S N (Vq ops l) F h->eJ P T ops S N (M l) listed F h
 | [],listed,F,h,hB,_,H=>⟨by simpa [HW] using hB,H⟩
 | (i,q) :: l,listed,F,h,hB,hS,H=>by
  simp only[HW,aI]at hB;obtain⟨WT,Py⟩:=hB;have Nz:i∈ba .any ops listed:=by
   cases q
   .simp only[a3,if_false,beq_iff_eq]at WT;rw[WT];simp
   .simp only[if_true,aI]at WT;simpa using WT.1
  obtain⟨_,o,ho,_⟩:=mem_ready.1 Nz;have hp:Vq ops ((i,q) :: l)=(i,q,o) :: Vq ops l:=by simp[Vq,ho]
  rw[hp]at H;simp only[Mt]at H
  cases q with
  | true=>
   simp only[if_true,aI]at WT H;split at H
   .rename_i hw;obtain⟨v,hv,H⟩:=H;exact HT ho (cd hs) (M l) listed F h (cx ho WT.2) Nz (.inl ⟨hw,hv⟩) hS (Ur hs l _ _ _ Py hS H)
   .rename_i hw;exact HT ho (cd hs) (M l) listed F h (cx ho WT.2) Nz (.inr ⟨by simpa using hw,rfl⟩) hS (Ur hs l _ _ _ Py hS H)
  | false=>
   simp only[a3,if_false,beq_iff_eq]at WT H;refine⟨fun h0=>(by rw[h0]at Nz;cases Nz),fun j hj=>?_⟩;rw[WT]at hj;have hj:j=i:=by simpa using hj
   subst hj;unfold Uq;rw[ho];simp only;split at H
   .rename_i hw;rw[if_pos hw];exact Mr (fun v h' q=>⟨q.1,Ur hs l _ _ _ Py q.1 q.2⟩) H
   .rename_i hw;rw[if_neg hw];exact⟨hS,Ur hs l _ _ _ Py hS H⟩
def SI(n:Nat)(ops:Array Oper)(l:List (Nat × Bool)):Bool:=
 KT n ops&&(cB ops&&(HW ops l (cP ops.size false)&&Nat.beq (M l) ops.size))
theorem VS.held{id:Nat}{ops:Array Oper}(S:Hp->Prop)(l:List (Nat × Bool))(hm:P.follows .mixedOrders=true)(Uk:SI n ops l=true)(hS:S h)(H:Mt P T ops S N (Vq ops l) F h):VS P n T (.region id ops true) N X R F h:=by
 intro a w h1 h2 h3 h4;simp only[SI,aI]at Uk;obtain⟨k1,k2,k3,k4⟩:=Uk;refine wp_region_any hm ?_;have hl:(M l)=ops.size:=Nat.eq_of_beq_eq_true k4;rw[<-hl];refine QE k1 _ _ F h (Ur k2 l _ F h (by rw[hl];exact k3) hS H) a _ h1 h2 h3 ⟨h4.heap,h4.tape,h4.os,h4.output⟩
theorem VS.quiet{id:Nat}{ops:Array Oper}(hm:P.follows .mixedOrders=true)(Uk:SI n ops ((bn ops.size).map fun i=>(i,true))=true)(H:Mt P T ops (fun h'=>h'=h) N (Vq ops ((bn ops.size).map fun i=>(i,true))) F h):VS P n T (.region id ops true) N X R F h:=
 VS.held (fun h'=>h'=h) _ hm Uk rfl H
def hr{α:Type}(P:aa):Sem α->Hp->Option α
 | .pure a,_=>G a
 | .load _ a k,h=>(hc h a).bind fun v=>hr P (k v) h
 | .shape r k,h=>hr P (k (V7 h r)) h
 | .frozen a k,h=>hr P (k (ug h a)) h
 | .program k,h=>hr P (k P) h
 | _,_=>U
theorem uj{T:am}:∀(s:Sem α) (h:Hp) (a:α),hr P s h=G a->∀w,Sj T w h->s.run P w=.ok a w:=by
 intro s
 induction s with
 | pure a=>intro h b H w hs;simp only[hr,Option.some.injEq]at H;rw[H];rfl
 | load m a k ih=>
  intro h b H w hs;simp only[hr]at H
  cases hv:hc h a with
  | none=>rw[hv]at H;cases H
  | some v=>
   rw[hv]at H;have:w.cell? a=G v:=by rw[World.cell?,hs.heap];exact hv
   rw[Sem.run,this];exact ih v h b H w hs
 | shape r k ih=>
  intro h b H w hs;have:w.shape? r=V7 h r:=by rw[World.shape?,hs.heap];rfl
  rw[Sem.run,this];exact ih _ h b H w hs
 | frozen a k ih=>
  intro h b H w hs;have:w.frozen? a=ug h a:=by rw[World.frozen?,hs.heap];rfl
  rw[Sem.run,this];exact ih _ h b H w hs
 | program k ih=>intro h b H w hs;rw[Sem.run];exact ih _ h b H w hs
 | _=>intro h b H;cases H
theorem QN{β:Type}(s:Sem α)(f:α->Sem β):∀h,hr P (s >>= f) h=(hr P s h).bind fun a=>hr P (f a) h:=by
 show ∀h,hr P (s.bind f) h=_
 induction s with
 | load m a k ih=>intro h;simp only[Sem.bind,hr,ih];cases hc h a<;>rfl
 | shape r k ih=>intro h;simp only[Sem.bind,hr,ih]
 | frozen a k ih=>intro h;simp only[Sem.bind,hr,ih]
 | program k ih=>intro h;simp only[Sem.bind,hr,ih]
 | _=>intro h;rfl
def Mu(P:aa)(t:O)(v:D)(h:Hp):Option D:=
 match v with
 | J (G a)=>hr P (loadVar t a) h
 | _=>U
def QO(P:aa)(F:Env)(h:Hp):List ResultVar->Option (List D)
 | []=>G []
 | .tmp t :: l=>(QO P F h l).map (F t :: ·)
 | .cell a t :: l=>(Mu P t (F a) h).bind fun v=>(QO P F h l).map (v :: ·)
def NB:List D->D
 | [v]=>v
 | l=>.tuple l.toArray
def HX(P:aa)(l:List ResultVar)(F:Env)(Q:D->Hp->Prop)(h:Hp):Prop:=
 match QO P F h l with
 | some vs=>Q (NB vs) h
 | none=>False
def Zbo(F:Env):ResultVar->Sem D
 | .tmp t=>pure (F t)
 | .cell a t=>do loadVar t (<-asAddr (F a))
theorem nk{F:Env}:∀(l:List ResultVar) (vs:List D),QO P F h l=G vs->hr P (l.mapM (Zbo F)) h=G vs:=by
 intro l
 induction l with
 | nil=>intro vs H;simp only[QO,Option.some.injEq]at H;subst H;rfl
 | cons x l ih=>
  intro vs H;rw[bG,QN]
  cases x with
  | tmp t=>
   simp only[QO]at H
   cases hl:QO P F h l with
   | none=>rw[hl]at H;cases H
   | some us=>
    rw[hl]at H;simp only[a0,Option.some.injEq]at H;subst H;show (G (F t)).bind _=_;rw[au,QN,ih us hl];rfl
  | cell a t=>
   simp only[QO]at H
   cases hv:Mu P t (F a) h with
   | none=>rw[hv]at H;cases H
   | some v=>
    rw[hv]at H
    cases hl:QO P F h l with
    | none=>rw[hl]at H;cases H
    | some us=>
     rw[hl]at H;simp only[au,a0,Option.some.injEq]at H;subst H;have e:hr P (Zbo F (.cell a t)) h=G v:=by
      show hr P (asAddr (F a) >>= fun b=>loadVar t b) h=G v;unfold Mu at hv;split at hv
      .rename_i b hb;rw[hb,QN];exact hv
      .cases hv
     rw[e,au,QN,ih us hl];rfl
theorem Ah{fn:Func}{l:List ResultVar}(hl:fn.results=l.toArray){a:Act}{vs:List D}(H:QO P (env a) h l=G vs){w:am}(hs:Sj T w h):
  (results fn a.tmps).run P w=.ok (NB vs) w:=by
 have e:results fn a.tmps=(do let us <-fn.results.mapM (Zbo (env a));pure (if h:us.size=1 then us[0] else .tuple us)):=by
  have e1:(fun x:ResultVar=>match x with|.tmp t=>(pure (a.tmps.getD t undef):Sem D)|.cell x t=>do loadVar t (<-asAddr (a.tmps.getD x undef)))=Zbo (env a):=by
   funext x
   cases x<;>rfl
  rw[<-e1];rfl
 rw[e,hl];refine uj (T:=T) _ h _ ?_ w hs;rw[QN,cq,map_eq_pure_bind,QN,nk l vs H];show G _=_
 congr 1
 match vs with
 | []=>rfl
 | [v]=>rfl
 | v :: u :: l=>simp[NB]
end
theorem np(args:Array D)(k:Nat):env { tmps:=args++cP k undef,defers:=[] } = IY args.toList 0:=by
 have key:∀(l:List D) (j t:Nat),IY l j t=if j<=t then (l[t-j]?).getD undef else undef:=by
  intro l
  induction l with
  | nil=>intro j t;simp[IY]
  | cons v l ih=>
   intro j t;simp only[IY,upd];by_cases h:t=j
   .subst h;simp
   .rw[if_neg h,ih];by_cases h':j<=t
    .have e:t-j=(t-(j+1))+1:=nc;rw[if_pos nc,if_pos h',e];simp
    .rw[if_neg nc,if_neg h']
 funext t
 rw[key];simp only[env,Nat.zero_le,if_true,Nat.sub_zero,bC,Array.getElem?_append,ca];by_cases h:t<args.size
 .rw[if_pos h]
 .rw[if_neg h,b6 (by omega:args.size<=t)];by_cases h2:t-args.size<k
  .simp[h2]
  .simp[h2]
theorem Zd.Hm{T:am}{f:FuncId}{fn:Func}{c:Code}{l:List ResultVar}{args:Array D}(hf:P.funcs[f]? = G fn)(hb:fn.body=G c)(hl:fn.results=l.toArray)(hn:c0 args.size fn.ntmps=true)(H:VS P fn.ntmps T c (fun F h'=>HX P l F Q h') (fun _ _ _=>False) (fun F h'=>HX P l F Q h') (IY args.toList 0) h):
  Zd P T f args h Q:=by
 intro w hs;refine calls_of_wp hf hb (Code.wp_mono (fun e a w hp=>?_) (H _ w ?_ rfl (np _ _) hs))
 .obtain⟨q1,q2,h',q3,q4⟩:=hp;have key:HX P l (env a) Q h'->∃v,(results fn a.tmps).run P w=.ok v w/\∃v' LW,Ending.returned v=.returned v'/\Sj T w LW/\Q v' LW:=by
   intro hr;unfold HX at hr;split at hr
   .rename_i vs hvs;exact⟨_,Ah hl hvs q3,_,h',rfl,q3,hr⟩
   .exact hr.elim
  cases e with
  | normal=>exact⟨q2,key q4⟩
  | ret=>exact⟨q2,key q4⟩
  | _=>exact q4.elim
 .have:=Nat.le_of_ble_eq_true hn;simp only[Array.size_append,Array.size_replicate];omega
set_option linter.unusedSimpArgs false
set_option linter.unusedVariables false
def tz(P:aa)(t:O):Option (List D):=((P.info? t).bind (·.zero)).map fun v=>v.cells.toList
def tn(P:aa)(t:O):Option Nat:=(P.info? t).map (·.size)
def tb(P:aa)(t:O):Option Nat:=(P.info? t).map (·.bytes)
def ta(P:aa)(t:O):Option Bool:=(P.underlying t).map fun|.struct _=>true|.array _ _=>true|_=>false
def tf(P:aa)(t:O)(i:Nat):Option Nat:=
 match P.underlying t with
 | some (.struct fs)=>(fs[i]?).bind fun f=>match tn P f.type with
  | some (_+1)=>G f.offset
  | _=>U
 | _=>U
def Xr(P:aa)(t:O):Option (Nat × O):=match P.underlying t with|some (.array n e)=>G (n,e)|_=>U
def QR(P:aa)(t:O):Option O:=match P.underlying t with|some (.slice e)=>G e|_=>U
def Ng(P:aa)(t:O):Option (List (Nat × Nat)):=match P.underlying t with|some (.struct fs)=>fs.toList.mapM (fun f=>(tn P f.type).map fun n=>(f.offset,n))|_=>U
def tfl(P:aa)(t:O)(i:Nat):Option (Nat × O):=match P.underlying t with|some (.struct fs)=>(fs[i]?).map fun f=>(f.offset,f.type)|_=>U
def WU(P:aa)(t:O):Bool:=match P.underlying t with|some .string=>true|_=>false
def Ef(P:aa)(t:O):Option IntKind:=match P.underlying t with|some (.int k)=>G k|_=>U
def goes(P:aa)(f:FuncId):Bool:=match P.funcs[f]? with|some fn=>!(fn.name == "runtime.NumGoroutine")&&fn.body.isSome|none=>false
def cl:D->List D
 | aU cs=>cs.toList
 | v=>[v]
theorem Mv(v:D):(cl v).toArray=v.cells:=by cases v<;>rfl
section
variable (P:aa) (T:am)
def EU(c a b:D)(K:D->Hp->Prop)(h:Hp):Prop:=
 match c with|al t=>K (if t then a else b) h|_=>False
def uk(z:Option (List D))(t:O)(K:D->Hp->Prop)(h:Hp):Prop:=
 match z with|some l=>K (J (G ⟨h.size,0,U⟩)) (h.push (Y l.toArray t))|none=>False
def rd(h:Hp)(a:Addr)(n:Nat):Option (List D):=
 match h[a.block]? with
 | some (Y c _ _)=>if a.spot=U/\a.off+n<=c.size then G ((c.toList.drop a.off).take n) else U
 | _=>U
def IZ(x:Option D)(K:D->Hp->Prop)(h:Hp):Prop:=match x with|some v=>K v h|none=>False
def HY(x:Option (List D))(K:D->Hp->Prop)(h:Hp):Prop:=match x with|some l=>K (aU l.toArray) h|none=>False
def Mw(s:Option Bool)(n:Option Nat)(p:D)(K:D->Hp->Prop)(h:Hp):Prop:=
 match p with
 | J (G a)=>match s,n with
  | some false,_=>IZ (hc h a) K h
  | some true,G n=>HY (rd h a n) K h
  | _,_=>False
 | _=>False
def Y9:List D->Nat->List D->List D
 | l,_,[]=>l
 | [],_,_ :: _=>[]
 | _ :: l,0,v :: vs=>v :: Y9 l 0 vs
 | x :: l,n+1,v :: vs=>x :: Y9 l n (v :: vs)
def wr(h:Hp)(a:Addr)(vs:List D):Option Hp:=
 match h[a.block]? with
 | some (Y c e (lo,hi))=>if a.spot=U/\a.off+(M vs)<=c.size/\hi<=lo/\vs.all YC=true then G (h.setIfInBounds a.block (Y (Y9 c.toList a.off vs).toArray e (lo,hi))) else U
 | _=>U
def QP(h:Hp)(a:Addr)(v:D):Option Hp:=
 match h[a.block]? with
 | some (Y c e (lo,hi))=>if a.spot=U/\a.off<c.size/\hi<=lo/\YC v=true then G (h.setIfInBounds a.block (Y (c.setIfInBounds a.off v) e (lo,hi))) else U
 | _=>U
def kw(x:Option Hp)(K:D->Hp->Prop):Prop:=match x with|some h'=>K undef h'|none=>False
def Vr(n:Option Nat)(p v:D)(K:D->Hp->Prop)(h:Hp):Prop:=
 match p,n with
 | J (G a),G n=>
  if n=(cl v).length then
   match v with
   | aU cs=>kw (wr h a cs.toList) K
   | v=>kw (QP h a v) K
  else False
 | _,_=>False
def NC(f:Option Nat)(p:D)(K:D->Hp->Prop)(h:Hp):Prop:=
 match f,p with
 | some o,J (G a)=>K (J (G (a.add o))) h
 | _,_=>False
def XU(op:BinOp)(t:O)(x y:a5)(a b:D)(K:D->Hp->Prop)(h:Hp):Prop:=
 hw P (do eqGuard op t x y a b;binOp op t a b) K h
def vUn(op:UnOp)(a:D)(K:D->Hp->Prop)(h:Hp):Prop:=hw P (Op.unary op a) K h
def Mx(src dst:O)(a:D)(K:D->Hp->Prop)(h:Hp):Prop:=hw P (convert src dst a) K h
def vIx(arr:Option (Nat × O))(sl:Option O)(n:O->Option Nat)(p i:D)(K:D->Hp->Prop)(h:Hp):Prop:=
 match i with
 | .int _ i=>(match arr,sl,p with
  | some (len,e),U,J (G a)=>(match n e with
   | some n=>if 0<=i/\i<(len:Int) then K (J (G (a.add (i.toNat*n)))) h else False
   | none=>False)
  | none,G e,Z (G a) len _=>(match n e with
   | some n=>if 0<=i/\i<(len:Int) then K (J (G (a.add (i.toNat*n)))) h else False
   | none=>False)
  | _,_,_=>False)
 | _=>False
def WV(v:D)(i:Nat)(K:D->Hp->Prop)(h:Hp):Prop:=
 match v with|.tuple vs=>IZ (vs[i]?) K h|_=>False
def eK(v:D)(K:D->Hp->Prop)(h:Hp):Prop:=
 match v with|J (G a)=>K (J (G a)) h|.func (.func f) x y=>K (.func (.func f) x y) h|_=>False
def H4(f:D)(args:List D)(K:D->Hp->Prop)(h:Hp):Prop:=
 match f with
 | .func (.func f) first captured=>if goes P f=true then Zd P T f (first.toList++args++captured.toList).toArray h K
  else hw P (callFunc f (first.toList++args++captured.toList).toArray) (Jt P T K) h
 | _=>False
def Pm(b:Builtin)(ts:Array O)(ty:O)(cs:Array Bool)(args:List D)(K:D->Hp->Prop)(h:Hp):Prop:=
 hw P (builtin b ts ty cs args.toArray) (Jt P T K) h
def nr(F:Env):List a5->List D
 | []=>[]
 | x :: l=>ev F x :: nr F l
theorem Cf(F:Env)(l:List a5):nr F l=l.map (ev F):=by induction l with|nil=>rfl|cons x l ih=>simp[nr,ih]
def nth{α:Type}:List α->Nat->Option α
 | [],_=>U
 | x :: _,0=>G x
 | _ :: l,n+1=>nth l n
def My(n:Nat)(i:Nat):Option (Nat × Nat):=G (i*n,n)
def WX(place:Nat->Option (Nat × Nat)):List D->List (Nat × D)->Option (List D)
 | cs,[]=>G cs
 | cs,(i,v) :: l=>match place i with
  | some (o,s)=>if (cl v).length=s/\o+s<=(M cs) then WX place (Y9 cs o (cl v)) l else U
  | none=>U
def eQ(F:Env):List (Nat × a5)->List (Nat × D)
 | []=>[]
 | (i,x) :: l=>(i,ev F x) :: eQ F l
def Ho(n:Option Nat)(z:List D)(parts:List (Nat × D))(K:D->Hp->Prop)(h:Hp):Prop:=
 match n with|some n=>HY (WX (My n) z parts) K h|none=>False
def NE(z:Option (List D))(pl:Option (List (Nat × Nat)))(arr:Option (Nat × O))(n:O->Option Nat)(parts:List (Nat × D))(K:D->Hp->Prop)(h:Hp):Prop:=
 match z,pl,arr with
 | some z,G pl,U=>HY (WX (nth pl) z parts) K h
 | some z,U,G (_,e)=>Ho (n e) z parts K h
 | _,_,_=>False
def Qf:Nat->List D->List D
 | 0,_=>[]
 | n+1,z=>z++Qf n z
def eW:Nat->List (Nat × D)->Option (List D)
 | _,[]=>G []
 | k,(i,v) :: l=>if i=k/\YC v=true then (eW (k+1) l).map (v :: ·) else U
def kA(e:O)(len:Nat)(x:Option (List D))(K:D->Hp->Prop)(h:Hp):Prop:=
 match x with|some l=>K (Z (G ⟨h.size,0,U⟩) len len) (h.push (Y l.toArray e))|none=>False
def Hq(n len:Nat)(z:List D)(parts:List (Nat × D)):Option (List D):=
 if n=1/\(M parts)=len then eW 0 parts else WX (My n) (Qf len z) parts
def Oz(e:O)(n:Option Nat)(z:Option (List D))(len:Nat)(parts:List (Nat × D))(K:D->Hp->Prop)(h:Hp):Prop:=
 match n,z with
 | some n,G z=>if (M z)=n/\len*n<=16777216 then kA e len (Hq n len z parts) K h else False
 | _,_=>False
def Mz(e:Option O)(n:O->Option Nat)(z:O->Option (List D))(len:Nat)(parts:List (Nat × D))(K:D->Hp->Prop)(h:Hp):Prop:=
 match e with
 | some e=>Oz e (n e) (z e) len parts K h
 | none=>False
def KX(a:Option Bool)(n:Option Nat)(cs:List D)(o:Nat)(K:D->Hp->Prop)(h:Hp):Prop:=
 match a,n with
 | some true,G n=>K (aU ((cs.drop o).take n).toArray) h
 | some false,_=>IZ (nth cs o) K h
 | _,_=>False
def ul(f:Option (Nat × O))(a:O->Option Bool)(n:O->Option Nat)(x:D)(K:D->Hp->Prop)(h:Hp):Prop:=
 match f,x with
 | some (o,t),aU cs=>KX (a t) (n t) cs.toList o K h
 | _,_=>False
def kC(m:Option Nat)(a:Option Bool)(len:Nat)(cs:List D)(i:Int)(K:D->Hp->Prop)(h:Hp):Prop:=
 match m with|some m=>if 0<=i/\i<(len:Int) then KX a (G m) cs (i.toNat*m) K h else False|none=>False
def nt(arr:Option (Nat × O))(str:Bool)(a:O->Option Bool)(n:O->Option Nat)(x i:D)(K:D->Hp->Prop)(h:Hp):Prop:=
 match i with
 | .int _ i=>(match arr,str,x with
  | some (len,e),false,aU cs=>kC (n e) (a e) len cs.toList i K h
  | none,true,.string s=>if 0<=i/\i<(s.size:Int) then K (.int .u8 ((s.data.toList.getD i.toNat 0).toNat:Nat)) h else False
  | _,_,_=>False)
 | _=>False
def sb(x:Option D)(d y:Nat):Option Nat:=
 match x with
 | none=>G d
 | some (.int _ i)=>if 0<=i/\i<=(y:Int) then G i.toNat else U
 | _=>U
def kD(F:Env):Option a5->Option D
 | none=>U
 | some x=>G (ev F x)
def RY(n:Option Nat)(a:Option Addr)(len cap:Nat)(lo hi:Option D)(K:D->Hp->Prop)(h:Hp):Prop:=
 match n,sb hi len cap with
 | some n,G b=>(match sb lo 0 b with
  | some l=>K (Z (if cap=l then a else a.map (·.add (l*n))) (b-l) (cap-l)) h
  | none=>False)
 | _,_=>False
def Eg(arr:Option (Nat × O))(sl:Option O)(str:Bool)(n:O->Option Nat)(x:D)(lo hi mx:Option D)(K:D->Hp->Prop)(h:Hp):Prop:=
 match mx,x,arr,sl,str with
 | some mv,Z a len cap,U,G e,_=>(match hi,sb (G mv) 0 cap with
  | some hv,G m=>RY (n e) a len m lo (G hv) K h
  | _,_=>False)
 | none,Z a len cap,U,G e,_=>RY (n e) a len cap lo hi K h
 | none,J (G a),G (len,e),U,_=>RY (n e) (G a) len len lo hi K h
 | none,.string s,U,U,true=>(match sb hi s.size s.size with
  | some b=>(match sb lo 0 b with|some l=>K (.string (s.extract l b)) h|none=>False)
  | none=>False)
 | _,_,_,_,_=>False
def Zbq(e:O)(n:Option Nat)(by':Option Nat)(z:Option (List D))(l c:Int)(K:D->Hp->Prop)(h:Hp):Prop:=
 match n,by',z with
 | some n,G bytes,G z=>if (M z)=n/\0<=l/\l<=c/\c<=9223372036854775807/\(bytes:Int)*c<=281474976710656 then K (Z (G ⟨h.size,0,U⟩) l.toNat c.toNat) (h.push (Y (Qf c.toNat z).toArray e)) else False
 | _,_,_=>False
def vMk(e:Option O)(n by':O->Option Nat)(z:O->Option (List D))(l c:D)(K:D->Hp->Prop)(h:Hp):Prop:=
 match e,l,c with
 | some e,.int _ l,.int _ c=>Zbq e (n e) (by' e) (z e) l c K h
 | _,_,_=>False
def TQ(op:Op)(ty:O)(K:D->Hp->Prop)(F:Env)(h:Hp):Prop:=
 match op with
 | .move x|.assign x=>K (ev F x) h
 | .pick c a b=>EU (ev F c) (ev F a) (ev F b) K h
 | .alloc e=>uk (tz P e) e K h
 | .box e x=>uk (G (cl (ev F x))) e K h
 | .load t a=>Mw (ta P t) (tn P t) (ev F a) K h
 | .store t a x=>Vr (tn P t) (ev F a) (ev F x) K h
 | .fieldAddr t x i=>NC (tf P t i) (ev F x) K h
 | .indexAddr t x i=>vIx (Xr P t) (QR P t) (tn P) (ev F x) (ev F i) K h
 | .nilCheck x=>eK (ev F x) K h
 | .binOp op t x y _=>XU P op t x y (ev F x) (ev F y) K h
 | .unOp op _ x=>vUn P op (ev F x) K h
 | .convert s d x=>Mx P s d (ev F x) K h
 | .extract x i=>WV (ev F x) i K h
 | .makeFunc fn first captured=>K (.func fn (nr F first.toList).toArray (nr F captured.toList).toArray) h
 | .call ⟨.value f,args,_⟩=>H4 P T (ev F f) (nr F args.toList) K h
 | .call ⟨.builtin b,args,ts⟩=>Pm P T b ts ty (args.map fun|.const _=>true|_=>false) (nr F args.toList) K h
 | .build t parts=>NE (tz P t) (Ng P t) (Xr P t) (tn P) (eQ F parts.toList) K h
 | .buildSlice t len parts=>Mz (QR P t) (tn P) (tz P) len (eQ F parts.toList) K h
 | .field t x i=>ul (tfl P t i) (ta P) (tn P) (ev F x) K h
 | .index t x i=>nt (Xr P t) (WU P t) (ta P) (tn P) (ev F x) (ev F i) K h
 | .slice t x lo hi mx=>Eg (Xr P t) (QR P t) (WU P t) (tn P) (ev F x) (kD F lo) (kD F hi) (kD F mx) K h
 | .makeSlice t l c=>vMk (QR P t) (tn P) (tb P) (tz P) (ev F l) (ev F c) K h
 | op=>Ee P T ⟨U,op,ty, "", #[],U⟩ K F h
end
section
variable {P:aa} {T:am} {K:D->Hp->Prop} {F:Env} {h:Hp} {ty:O}
theorem eY{Q:aa->Hp->Prop}:hw P program Q h=Q P h:=rfl
theorem ZN{Q:α->Hp->Prop}(a:α):hw P (pure a) Q h=Q a h:=rfl
theorem XZ{d:TypeInfo}(hd:P.info? t=G d){Q:TypeInfo->Hp->Prop}:hw P (typeInfo t) Q h=Q d h:=by
 simp only[typeInfo];rw[Zm];simp only[program,hw];rw[hd];rfl
theorem ZH{d:TypeDesc}(hd:P.underlying t=G d){Q:TypeDesc->Hp->Prop}:hw P (underlying t) Q h=Q d h:=by
 simp only[underlying];rw[Zm];simp only[program,hw];rw[hd];rfl
theorem run_sizeOf(hn:tn P t=G n){Q:Nat->Hp->Prop}:hw P (sizeOf t) Q h=Q n h:=by
 unfold tn at hn
 cases hi:P.info? t with
 | none=>rw[hi]at hn;cases hn
 | some i=>
  rw[hi]at hn;simp only[a0,Option.some.injEq]at hn;subst hn;unfold sizeOf;rw[Zm,XZ hi];rfl
theorem VX{b:Bool}(hb:ta P t=G b){Q:Bool->Hp->Prop}:hw P (isAgg t) Q h=Q b h:=by
 unfold ta at hb
 cases hi:P.underlying t with
 | none=>rw[hi]at hb;cases hb
 | some d=>
  rw[hi]at hb;simp only[a0,Option.some.injEq]at hb;subst hb;unfold isAgg;rw[Zm,ZH hi]
  cases d<;>rfl
theorem XJ(b o n:Nat):Addr.add ⟨b,o,U⟩ n=⟨b,o+n,U⟩:=by
 unfold Addr.add;split
 .rename_i h;subst h;rfl
 .rfl
theorem OB(a:Addr)(n:Nat)(ha:a.spot=U):a.add n=⟨a.block,a.off+n,U⟩:=by
 obtain⟨b,o,s⟩:=a;simp only at ha;subst ha;exact XJ b o n
theorem run_loadCells(a:Addr)(c:List D){Q:Array D->Hp->Prop}:∀(n i:Nat) (acc:Array D),
  (∀j,j<n->hc h (a.add (i+j))=G (c.getD j undef))->n=(M c)->Q (acc++c.toArray) h->hw P (loadCellsFrom a i n acc) Q h:=by
 induction c with
 | nil=>intro n i acc _ hn H;subst hn;simpa [loadCellsFrom,pure,hw] using H
 | cons v c ih=>
  intro n i acc hj hn H;subst hn;show hw P (load (a.add i) >>= fun v=>loadCellsFrom a (i+1) (M c) (acc.push v)) Q h;rw[Zm];refine⟨v,by simpa using hj 0 Hg,?_⟩;refine ih _ (i+1) _ (fun j fa=>?_) rfl ?_
  .have:=hj (j+1) KQ;have e:i+(j+1)=i+1+j:=nc;rw[e]at this
   simpa using this
  .simpa using H
theorem fb(H:Mw (ta P t) (tn P t) v K h):hw P (Instr.loadAt t v) K h:=by
 unfold Mw at H;split at H
 .rename_i a;unfold Instr.loadAt;rw[Zm];show hw P (loadVar t a) K h;unfold loadVar;rw[Zm];split at H
  .rename_i hs;rw[VX hs];unfold IZ at H;split at H
   .rename_i v hv;exact⟨v,hv,H⟩
   .exact H.elim
  .rename_i n hs hn;rw[VX hs];simp only[if_true];rw[Zm,run_sizeOf hn,Zm];unfold HY at H;split at H
   .rename_i l hl;unfold rd at hl;split at hl
    .rename_i c e fr hb;split at hl
     .rename_i MA;obtain⟨h1,h2⟩:=MA;simp only[Option.some.injEq]at hl;subst hl;have hlen:((c.toList.drop a.off).take n).length=n:=KQ;refine run_loadCells a _ n 0 #[] (fun j hj=>?_) hlen.symm (by simpa [ZN] using H);rw[OB a _ h1];unfold hc;rw[hb];simp only[bK,a3,if_false];rw[bR,List.getElem?_take,if_pos hj,List.getElem?_drop];have e:a.off+(0+j)=a.off+j:=nc;rw[e];simp;rw[bf nc];rfl
     .cases hl
    .cases hl
   .exact H.elim
  .exact H.elim
 .exact H.elim
theorem run_store{Q:Unit->Hp->Prop}:hw P (store a v) Q h=(YC v=true/\(∃u,hc h a=G u)/\ug h a=false/\Q () (ng h a v)):=rfl
theorem Zbs{c:Array D}{fr:Nat × Nat}(hb:h[a.block]? = G (Y c e fr))(hs:a.spot=U)(v:D):
  ng h a v=h.setIfInBounds a.block (Y (c.setIfInBounds a.off v) e fr):=by
 obtain⟨ZU,fc⟩:=a4.1 hb;unfold ng;apply bb;intro i;rw[Array.getElem?_modify,aw];by_cases hi:a.block=i
 .subst hi;simp[fc,hs,ZU]
 .simp[hi]
theorem SJ(l:List D)(n:Nat)(v:D)(vs:List D):Y9 l n (v :: vs)=Y9 (l.set n v) (n+1) vs:=by
 induction l generalizing n with
 | nil=>cases vs<;>simp[Y9]
 | cons x l ih=>
  cases n with
  | zero=>
   simp only[Y9,cn]
   cases vs with
   | nil=>simp[Y9]
   | cons u us=>simp[Y9]
  | succ n=>
   simp only[Y9,co];rw[ih]
   cases vs with
   | nil=>simp[Y9]
   | cons u us=>simp[Y9]
theorem YV{lo hi:Nat}{Q:Unit->Hp->Prop}(hs:a.spot=U)(Zp1:hi<=lo):∀(vs:List D) (i:Nat) (h:Hp) (c:Array D),
  h[a.block]? = G (Y c e (lo,hi))->a.off+i+(M vs)<=c.size->vs.all YC=true ->
  Q () (h.setIfInBounds a.block (Y (Y9 c.toList (a.off+i) vs).toArray e (lo,hi)))->hw P (storeCells a vs i) Q h
 | [],i,h,c,hb,_,_,H=>by
  have e:h.setIfInBounds a.block (Y (Y9 c.toList (a.off+i) []).toArray e (lo,hi))=h:=by
   have ZU:=(a4.1 hb).1;apply bb;intro j;rw[aw];by_cases hj:a.block=j
   .subst hj;rw[if_pos rfl,if_pos ZU,hb];simp[Y9]
   .simp[hj]
  rw[e]at H;exact H
 | v :: vs,i,h,c,hb,hlen,XV,H=>by
  simp only[br,aI]at XV;simp only[be]at hlen;show hw P (store (a.add i) v >>= fun _=>storeCells a vs (i+1)) Q h;rw[Zm,run_store,OB a i hs];have ZU:a.block<h.size:=(a4.1 hb).1;refine⟨XV.1,?_,?_,?_⟩
  .unfold hc;simp only[hb];refine⟨c[a.off+i]'nc,?_⟩;simp only[bK,a3,if_false];rw[bf nc]
  .unfold ug;simp only[hb];simp;omega
  .have Qa:h[({ block:=a.block,off:=a.off+i,spot:=U }:Addr).block]? = G (Y c e (lo,hi)):=hb;rw[Zbs Qa rfl];have Hr:(h.setIfInBounds a.block (Y (c.setIfInBounds (a.off+i) v) e (lo,hi)))[a.block]? = G (Y (c.setIfInBounds (a.off+i) v) e (lo,hi)):=by
    simp[ZU]
   refine YV hs Zp1 vs (i+1) _ _ Hr KQ XV.2 ?_;have e2:(h.setIfInBounds a.block (Y (c.setIfInBounds (a.off+i) v) e (lo,hi))).setIfInBounds a.block
     (Y (Y9 (c.setIfInBounds (a.off+i) v).toList (a.off+(i+1)) vs).toArray e (lo,hi)) =
     h.setIfInBounds a.block (Y (Y9 c.toList (a.off+i) (v :: vs)).toArray e (lo,hi)):=by
    rw[SJ,bc];rw[Array.setIfInBounds_setIfInBounds,ck]
   rw[e2];exact H
theorem Ai{p:D}(H:Vr (tn P t) p v K h):hw P (Instr.storeAt t p v) (fun _ h=>K undef h) h:=by
 unfold Vr at H;split at H
 .rename_i a n hn;unfold Instr.storeAt;rw[Zm];show hw P (storeVar t a v) _ h;unfold storeVar;split at H
  .rename_i hlen;have hsz:v.cells.size=n:=by rw[<-Mv,hlen];simp
   rw[Zm,run_sizeOf hn];simp only[hsz,ne_eq,not_true_eq_false,if_false];show hw P (storeCells a v.cells.toList) _ h;split at H
   .rename_i cs;unfold kw at H;split at H
    .rename_i h' hh;unfold wr at hh;split at hh
     .rename_i c e lo hi hb;split at hh
      .rename_i Zfl;obtain⟨h1,h2,h3,h4⟩:=Zfl;simp only[Option.some.injEq]at hh;subst hh;exact YV h1 h3 cs.toList 0 h c hb h2 h4 H
      .cases hh
     .cases hh
    .exact H.elim
   .rename_i hna;have Zfm:v.cells.toList=[v]:=by cases v<;>first|rfl|exact (hna _ rfl).elim
    rw[Zfm];unfold kw at H;split at H
    .rename_i h' hh;unfold QP at hh;split at hh
     .rename_i c e lo hi hb;split at hh
      .rename_i Zfl;obtain⟨h1,h2,h3,h4⟩:=Zfl;simp only[Option.some.injEq]at hh;subst hh;refine YV h1 h3 [v] 0 h c hb KQ (by simpa using h4) ?_;have e1:(Y9 c.toList (a.off+0) [v]).toArray=c.setIfInBounds a.off v:=by
        rw[SJ,cr];apply b3.1;rw[bc]
        cases h9:(c.toList.set a.off v)<;>simp[Y9]
       rw[e1];exact H
      .cases hh
     .cases hh
    .exact H.elim
  .exact H.elim
 .exact H.elim
theorem Aj{p:D}(H:NC (tf P t i) p K h):hw P (Instr.fieldAt t p i) K h:=by
 unfold NC at H;split at H
 .rename_i o a hf;unfold tf at hf;split at hf
  .rename_i fs hu;unfold Instr.fieldAt;rw[Zm,ZH hu]
   cases Ak:fs[i]? with
   | none=>rw[Ak]at hf;cases hf
   | some f=>
    rw[Ak]at hf;simp only[au]at hf;split at hf
    .rename_i m hm;simp only[Option.some.injEq]at hf;subst hf;simp only[Ak];simp only[Instr.sureAddr,fieldPlace,Zm,ZN,run_sizeOf hm,if_neg (Nat.succ_ne_zero m)];exact H
    .cases hf
  .cases hf
 .exact H.elim
theorem um{p i:D}(H:vIx (Xr P t) (QR P t) (tn P) p i K h):hw P (Instr.indexAt t p i) K h:=by
 unfold vIx at H;split at H
 .rename_i k i;split at H
  .rename_i len e a ha hs;split at H
   .rename_i n hn;unfold Xr at ha;split at ha
    .rename_i m e' hu;simp only[Option.some.injEq,Prod.mk.injEq]at ha;obtain⟨rfl,rfl⟩:=ha;split at H
     .rename_i hb;simp only[Instr.indexAt,asIntOf,Instr.sureAddr,Zm,ZN,ZH hu,if_pos hb,run_sizeOf hn];exact H
     .exact H.elim
    .cases ha
   .exact H.elim
  .rename_i e a len cap ha hs;split at H
   .rename_i n hn;unfold QR at hs;split at hs
    .rename_i e' hu;simp only[Option.some.injEq]at hs;subst hs;split at H
     .rename_i hb;simp only[Instr.indexAt,asIntOf,Instr.sureAddr,Zm,ZN,ZH hu,if_pos hb,run_sizeOf hn];exact H
     .exact H.elim
    .cases hs
   .exact H.elim
  .exact H.elim
 .exact H.elim
theorem Eh(H:WV v i K h):hw P (Instr.extract v i) K h:=by
 unfold WV at H;split at H
 .rename_i vs;unfold IZ at H;split at H
  .rename_i v hv;simp only[Instr.extract,hv];exact H
  .exact H.elim
 .exact H.elim
theorem fe{f:D}{c:Call}{args:List D}(hc:c.callee=.value x)(hf:ev F x=f)(ha:(c.args.map (ev F)).toList=args)(H:H4 P T f args K h):
  hw P (do let d <-resolve (ev F) c ty;invoke d.target d.args) (Jt P T K) h:=by
 unfold H4 at H;split at H
 .rename_i f first captured;have e:first++c.args.map (ev F)++captured=(first.toList++args++captured.toList).toArray:=by rw[<-ha];simp
  by_cases hg:goes P f=true
  case neg=>
   rw[if_neg hg]at H;simp only[resolve,hc,hf,Deferred.ofValue,Zm,ZN,invoke];rw[e];exact H
  rw[if_pos hg]at H;unfold goes at hg;split at hg
  .rename_i fn hfn;simp only[aI,Bool.not_eq_true']at hg;have Zi3:fn.body.isNone=false:=by
    cases hb:fn.body with
    | none=>rw[hb]at hg;simp at hg
    | some _=>rfl
   simp only[resolve,hc,hf,Deferred.ofValue,Zm,ZN,invoke,callFunc,eY,hfn,hg.1,a3,if_false,Zi3];rw[e];exact H
  .cases hg
 .exact H.elim
theorem Ht{z:List D}(hz:tz P t=G z):∃v,v.cells=z.toArray/\∀{Q:D->Hp->Prop} {h:Hp},hw P (zeroValue t) Q h=Q v h:=by
 unfold tz at hz
 cases hi:P.info? t with
 | none=>rw[hi]at hz;cases hz
 | some i=>
  rw[hi]at hz
  cases Hv:i.zero with
  | none=>rw[au,Hv]at hz;cases hz
  | some v=>
   rw[au,Hv]at hz;simp only[a0,Option.some.injEq]at hz;refine⟨v,by rw[<-hz,cf],fun {Q h}=>?_⟩;unfold zeroValue;rw[Zm,XZ hi];simp only[Hv];rfl
theorem EV(off:Nat):∀(vs:List D) (k:Nat) (cells:Array D),
  ((vs.zipIdx k).foldl (fun (cs:Array D) (x:D × Nat)=>cs.setIfInBounds (off+x.2) x.1) cells).toList=Y9 cells.toList (off+k) vs
 | [],k,cells=>by cases h:cells.toList<;>simp[Y9,h]
 | v :: vs,k,cells=>by
  rw[List.zipIdx_cons,List.foldl_cons,EV off vs (k+1),SJ,bc,ck]
theorem Hw:∀(parts:List (Nat × D)) (cs:List D) (uo:List D),WX place cs parts=G uo->Instr.fill place cs.toArray parts=G uo.toArray
 | [],cs,uo,h=>by simp only[WX,Option.some.injEq]at h;subst h;rfl
 | (i,v) :: l,cs,uo,h=>by
  unfold WX at h;unfold Instr.fill
  cases hp:place i with
  | none=>rw[hp]at h;cases h
  | some os=>
   obtain⟨o,s⟩:=os;rw[hp]at h;simp only at h ⊢;split at h
   .rename_i hc;have hsz:v.cells.size=s:=by rw[<-Mv];simpa using hc.1
    have MA:¬((decide (v.cells.size≠s)||decide (o+v.cells.size>cs.toArray.size))=true):=by
     rw[hsz];simp;omega
    rw[if_neg MA];have e:(v.cells.zipIdx.foldl (fun (cs:Array D) (x:D × Nat)=>cs.setIfInBounds (o+x.2) x.1) cs.toArray)=(Y9 cs o (cl v)).toArray:=by
     apply b3.1;have:=EV o (cl v) 0 cs.toArray;rw[<-Mv,c1,<-Array.foldl_toList];have e3:(cl v).mapIdx (fun i a=>(a,i))=(cl v).zipIdx 0:=by
      apply List.ext_getElem?;intro i;simp[List.getElem?_zipIdx]
     simpa [c1,e3] using this
    have key:=Hw l _ _ h;rw[<-e]at key;exact key
   .cases h
theorem YR(l:List α)(n:Nat):nth l n=l[n]?:=by
 induction l generalizing n with
 | nil=>simp[nth]
 | cons x l ih=>cases n<;>simp[nth,ih]
theorem kE(F:Env)(l:List (Nat × a5)):eQ F l=l.map fun x=>(x.1,ev F x.2):=by
 induction l with
 | nil=>rfl
 | cons x l ih=>obtain⟨i,x⟩:=x;simp[eQ,ih]
theorem run_places:∀(l:List Field) (Q:List (Nat × Nat)->Hp->Prop) (pl:List (Nat × Nat)),l.mapM (fun f:Field=>(tn P f.type).map fun n=>(f.offset,n))=G pl ->
  Q pl h->hw P (l.mapM fun f:Field=>do pure (f.offset,<-sizeOf f.type)) Q h
 | [],Q,pl,hp,H=>by
  simp only[cT,pure,Option.some.injEq]at hp;subst hp;exact H
 | f :: l,Q,pl,hp,H=>by
  rw[bG]at hp
  cases hn:tn P f.type with
  | none=>rw[hn]at hp;cases hp
  | some n=>
   rw[hn]at hp
   cases hl:l.mapM (fun f:Field=>(tn P f.type).map fun n=>(f.offset,n)) with
   | none=>simp[hl]at hp
   | some pl'=>
    simp[hl]at hp;subst hp;rw[bG,Zm,Zm,run_sizeOf hn];show hw P (_ >>= _) Q h;rw[Zm];exact run_places l _ pl' hl H
theorem Am{parts:Array (Nat × a5)}(H:NE (tz P t) (Ng P t) (Xr P t) (tn P) (eQ F parts.toList) K h):hw P (Instr.build t (parts.map fun (i,x)=>(i,ev F x))) K h:=by
 have e1:(parts.map fun (i,x)=>(i,ev F x)).toList=eQ F parts.toList:=by rw[kE,bo]
 unfold Instr.build;rw[e1];unfold NE at H;split at H
 .rename_i z pl hz Mp _;obtain⟨v,hv,Zfn⟩:=Ht hz;rw[Zm,Zfn,Zm,hv];unfold Ng at Mp;split at Mp
  .rename_i fs hu;rw[ZH hu];simp only;rw[Zm,<-cf (xs:=fs),cq,map_eq_pure_bind,Zm];refine run_places fs.toList _ pl Mp ?_;unfold HY at H;split at H
   .rename_i cs XE;have e2:(fun i=>pl.toArray[i]?)=nth pl:=by funext i;rw[YR];simp
    have:=Hw _ _ _ XE;rw[<-e2]at this;simp only[ZN,this];exact H
   .exact H.elim
  .cases Mp
 .rename_i z n e hz _ ha;obtain⟨v,hv,Zfn⟩:=Ht hz;rw[Zm,Zfn,Zm,hv];unfold Xr at ha;split at ha
  .rename_i n' e' hu;simp only[Option.some.injEq,Prod.mk.injEq]at ha;obtain⟨rfl,rfl⟩:=ha;rw[ZH hu];simp only;unfold Ho at H;split at H
   .rename_i m hm;rw[Zm,run_sizeOf hm];unfold HY at H;split at H
    .rename_i cs XE;have:=Hw _ _ _ XE;have e2:(fun i=>G (i*m,m))=My m:=rfl;rw[e2];simp only[this];exact H
    .exact H.elim
   .exact H.elim
  .cases ha
 .exact H.elim
theorem kF(z:List D)(hz:z≠[]):∀(len:Nat),(bT (len*(M z))).map (fun j=>z.toArray[j%z.toArray.size]!)=(Qf len z).toArray:=by
 have H5:0<(M z):=bA.2 hz;have hlen:∀len,(Qf len z).length=len*(M z):=by
  intro len
  induction len with
  | zero=>simp[Qf]
  | succ n ih=>simp[Qf,ih,bk,ct]
 have fc:∀len j,j<len*(M z)->(Qf len z)[j]? = z[j%(M z)]?:=by
  intro len
  induction len with
  | zero=>intro j hj;simp at hj
  | succ n ih=>
   intro j hj;simp only[Qf];by_cases fa:j<(M z)
   .rw[bS fa,a8 fa]
   .rw[List.getElem?_append_right nc,ih (j-(M z)) (by rw[bk]at hj;omega)];rw[Nat.mod_eq_sub_mod (by omega:j ≥ (M z))]
 intro len;apply bb;intro j;by_cases hj:j<len*(M z)
 .have Zp2:j%(M z)<(M z):=Nat.mod_lt _ H5;simp[hj,fc len j hj,Zp2]
 .have h2:(Qf len z)[j]? = U:=List.getElem?_eq_none (by rw[hlen];omega);simp[hj,h2]
theorem Pz(z:List D):∀n,(Qf n z).length=n*(M z):=by
 intro len
 induction len with
 | zero=>simp[Qf]
 | succ n ih=>simp[Qf,ih,bk,ct]
theorem EW:∀(parts:List (Nat × D)) (pre vs rest:List D),eW (M pre) parts=G vs->(M rest)=(M parts)->WX (My 1) (pre++rest) parts=G (pre++vs)
 | [],pre,vs,rest,h,hl=>by
  simp only[eW,Option.some.injEq]at h;subst h;have:rest=[]:=a1 (by simpa using hl);simp[WX,this]
 | (i,v) :: l,pre,vs,rest,h,hl=>by
  unfold eW at h;split at h
  .rename_i hc;obtain⟨rfl,hv⟩:=hc
   cases hs:eW ((M pre)+1) l with
   | none=>rw[hs]at h;cases h
   | some us=>
    rw[hs]at h;simp only[a0,Option.some.injEq]at h;subst h
    cases rest with
    | nil=>simp at hl
    | cons r rest=>
     have JZ:cl v=[v]:=by cases v<;>first|rfl|(simp[YC]at hv)
     have e1:Y9 (pre++r :: rest) (M pre) [v]=(pre++[v])++rest:=by
      rw[SJ];simp[Y9]
     have ih:=EW l (pre++[v]) us rest (by simpa using hs) (by simpa using hl);simp only[WX,My,JZ,Nat.mul_one,be,cR,bh];rw[if_pos Hg,e1,ih];simp
  .cases h
theorem Ei{parts:Array (Nat × a5)}(H:Mz (QR P t) (tn P) (tz P) len (eQ F parts.toList) K h):hw P (Instr.buildSlice t len (parts.map fun (i,x)=>(i,ev F x))) K h:=by
 have e1:(parts.map fun (i,x)=>(i,ev F x)).toList=eQ F parts.toList:=by rw[kE,bo]
 unfold Instr.buildSlice;rw[e1];unfold Mz at H;split at H
 .rename_i e he;unfold QR at he;split at he
  .rename_i e' hu;simp only[Option.some.injEq]at he;subst he;unfold Oz at H;split at H
   .rename_i n z hn hz;split at H
    .rename_i hc;obtain⟨dW,hle⟩:=hc;unfold kA at H;split at H
     .rename_i l hl;have Zi4:WX (My n) (Qf len z) (eQ F parts.toList)=G l:=by
       unfold Hq at hl;split at hl
       .rename_i hc;obtain⟨rfl,Mp⟩:=hc;have:=EW (eQ F parts.toList) [] l (Qf len z) hl (by rw[Pz,dW,Mp,Nat.mul_one])
        simpa using this
       .exact hl
      rw[Zm,ZH hu];simp only;rw[Zm,run_sizeOf hn,if_neg nc];have fin:∀z':Array D,(bT (len*n)).map (fun j=>z'[j%z'.size]!)=(Qf len z).toArray->hw P (match Instr.fill (fun i=>G (i*n,n)) ((bT (len*n)).map (fun j=>z'[j%z'.size]!)) (eQ F parts.toList) with
        | some cells=>do
         let a <-newRow e' cells
         pure (Value.slice (G a) len len)
        | x=>stuck "buildSlice: a part of the wrong size") K h:=by
       intro z' An;have:=Hw _ _ _ Zi4;have e2:(fun i=>G (i*n,n))=My n:=rfl;rw[e2,An];simp only[this];exact H
      split
      .rename_i h0;refine fin #[] ?_;have:(Qf len z).length=0:=by rw[Pz,dW,h0]
       rw[a1 this,h0];simp
      .rename_i h0;obtain⟨v,hv,hr⟩:=Ht hz;rw[Zm,hr];refine fin v.cells ?_;have:z≠[]:=by intro e;subst e;simp at dW;subst dW;simp at h0
       rw[hv,<-dW];exact kF z this len
     .exact H.elim
    .exact H.elim
   .exact H.elim
  .cases he
 .exact H.elim
theorem H6{cs:Array D}(H:KX (ta P t) (tn P t) cs.toList o K h):hw P (part t cs o) K h:=by
 unfold KX at H;unfold part;rw[Zm];split at H
 .rename_i n ha hn;rw[VX ha,if_pos rfl,Zm,run_sizeOf hn];have e:(cs.extract o (o+n))=((cs.toList.drop o).take n).toArray:=by
   apply b3.1;simp[List.extract_eq_take_drop]
  rw[e];exact H
 .rename_i ha;rw[VX ha,if_neg Hg];unfold IZ at H;split at H
  .rename_i v hv;rw[YR]at hv;have:cs[o]? = G v:=by rw[<-ca];exact hv
   simp only[this];exact H
  .exact H.elim
 .exact H.elim
theorem nu{x:D}(H:ul (tfl P t i) (ta P) (tn P) x K h):hw P (Instr.field t x i) K h:=by
 unfold ul at H;split at H
 .rename_i o ft cs hf;unfold tfl at hf;split at hf
  .rename_i fs hu;unfold Instr.field;rw[Zm,ZH hu]
   cases Ak:fs[i]? with
   | none=>rw[Ak]at hf;cases hf
   | some f=>
    rw[Ak]at hf;simp only[a0,Option.some.injEq,Prod.mk.injEq]at hf;obtain⟨rfl,rfl⟩:=hf;simp only[Ak];exact H6 H
  .cases hf
 .exact H.elim
theorem nz{x i:D}(H:nt (Xr P t) (WU P t) (ta P) (tn P) x i K h):hw P (Instr.index t x i) K h:=by
 unfold nt at H;split at H
 .rename_i k i;split at H
  .rename_i len e cs ha _;unfold Xr at ha;split at ha
   .rename_i n' e' hu;simp only[Option.some.injEq,Prod.mk.injEq]at ha;obtain⟨rfl,rfl⟩:=ha;unfold kC at H;split at H
    .rename_i m hm;split at H
     .rename_i hc;unfold Instr.index;simp only[asIntOf,Zm,ZN,ZH hu,if_pos hc,run_sizeOf hm];exact H6 (by rw[hm];exact H)
     .exact H.elim
    .exact H.elim
   .cases ha
  .rename_i s _ hs;unfold WU at hs;split at hs
   .rename_i hu;split at H
    .rename_i hc;unfold Instr.index;have ZU:i.toNat<s.size:=nc;have e:s[i.toNat]? = G s[i.toNat]:=by exact getElem?_pos s i.toNat ZU
     have e2:s.data.toList.getD i.toNat 0=s[i.toNat]:=by
      have I0:i.toNat<(M s.data.toList):=by simpa using ZU
      rw[bR,a6 I0,Option.getD_some];rfl
     simp only[asIntOf,Zm,ZN,ZH hu,if_pos hc.1,e];rw[e2]at H;exact H
    .exact H.elim
   .cases hs
  .exact H.elim
 .exact H.elim
theorem H7{x:Option D}{y:Nat}{c:BoundsCode}(hx:x=G v)(hs:sb x 0 y=G n){Q:Nat->Hp->Prop}:hw P (Instr.sliceBound v y c) Q h=Q n h:=by
 subst hx;unfold sb at hs;split at hs
 .rename_i he;cases he
 .rename_i k i he;simp only[Option.some.injEq]at he;subst he;split at hs
  .rename_i hc;simp only[Option.some.injEq]at hs;subst hs;unfold Instr.sliceBound;simp only[asIntOf,Zm,ZN,if_pos hc]
  .cases hs
 .cases hs
theorem NF{isS:Bool}{l:Nat}{hi:Option D}(hb:sb hi len cap=G b)(hl:sb lo 0 b=G l){Q:Nat × Nat × Nat->Hp->Prop}(H:Q (l,b,cap) h):hw P (Instr.sliceBounds isS len cap lo hi U) Q h:=by
 have h2:∀{c:BoundsCode},hw P (match lo with
   | some v=>do
    let l <-Instr.sliceBound v b c
    pure (l,b,cap)
   | none=>do
    let l <-pure 0
    pure (l,b,cap)) Q h:=by
  intro c
  cases lo with
  | none=>simp only[sb,Option.some.injEq]at hl;subst hl;exact H
  | some v=>
   simp only;rw[Zm,H7 rfl hl];exact H
 unfold Instr.sliceBounds;rw[Zm];show hw P (pure cap) _ h;rw[ZN]
 cases hi with
 | none=>
  simp only[sb,Option.some.injEq]at hb;subst hb;exact h2
 | some v=>
  have Qa:sb (G v) 0 cap=G b:=by unfold sb at hb ⊢;cases v<;>simp at hb ⊢<;>exact hb
  simp only;rw[Zm,H7 rfl Qa];exact h2
theorem Ao{isS:Bool}{l:Nat}{hv mv:D}(hm:sb (G mv) 0 cap=G m)(hb:sb (G hv) len m=G b)(hl:sb lo 0 b=G l){Q:Nat × Nat × Nat->Hp->Prop}(H:Q (l,b,m) h):hw P (Instr.sliceBounds isS len cap lo (G hv) (G mv)) Q h:=by
 have Qa:sb (G hv) 0 m=G b:=by unfold sb at hb ⊢;cases hv<;>simp at hb ⊢<;>exact hb
 unfold Instr.sliceBounds;rw[Zm];show hw P (Instr.sliceBound mv cap _) _ h;rw[H7 rfl hm,Zm,H7 rfl Qa]
 cases lo with
 | none=>simp only[sb,Option.some.injEq]at hl;subst hl;exact H
 | some v=>
  show hw P (Instr.sliceBound v b _ >>= _) _ h;rw[Zm,H7 rfl hl];exact H
theorem nA{x:D}{lo hi mx:Option a5}(H:Eg (Xr P t) (QR P t) (WU P t) (tn P) x (kD F lo) (kD F hi) (kD F mx) K h):hw P (Instr.sliceAt t x (lo.map (ev F)) (hi.map (ev F)) (mx.map (ev F))) K h:=by
 have e:∀o,kD F o=o.map (ev F):=fun o=>by cases o<;>rfl
 rw[e,e,e]at H;generalize lo.map (ev F)=lo at *;generalize hi.map (ev F)=hi at *;generalize mx.map (ev F)=mx at *;unfold Eg at H;split at H
 .rename_i mv a len cap e ha hs;unfold QR at hs;split at hs
  .rename_i e' hu;simp only[Option.some.injEq]at hs;subst hs;split at H
   .rename_i hv m hm;unfold RY at H;split at H
    .rename_i n b hn hb;split at H
     .rename_i l hl;unfold Instr.sliceAt;rw[Zm,ZH hu];simp only;unfold Instr.slice;rw[Zm,ZH hu];simp only;rw[Zm];refine Ao hm hb hl ?_;simp only[Zm,run_sizeOf hn,ZN];exact H
     .exact H.elim
    .exact H.elim
   .exact H.elim
  .cases hs
 .rename_i a len cap e ha hs;unfold QR at hs;split at hs
  .rename_i e' hu;simp only[Option.some.injEq]at hs;subst hs;unfold RY at H;split at H
   .rename_i n b hn hb;split at H
    .rename_i l hl;unfold Instr.sliceAt;rw[Zm,ZH hu];simp only;unfold Instr.slice;rw[Zm,ZH hu];simp only;rw[Zm];refine NF hb hl ?_;simp only[Zm,run_sizeOf hn,ZN];exact H
    .exact H.elim
   .exact H.elim
  .cases hs
 .rename_i a len e ha hs;unfold Xr at ha;split at ha
  .rename_i n' e' hu;simp only[Option.some.injEq,Prod.mk.injEq]at ha;obtain⟨rfl,rfl⟩:=ha;unfold RY at H;split at H
   .rename_i n b hn hb;split at H
    .rename_i l hl;unfold Instr.sliceAt;rw[Zm,ZH hu];simp only[Instr.sureAddr,Zm,ZN];refine NF hb hl ?_;simp only[Zm,run_sizeOf hn,ZN];have e3:(if n'=l then G a else (G a).map (·.add (l*n)))=G (if n'=l then a else a.add (l*n)):=by split<;>rfl
     rw[e3]at H;exact H
    .exact H.elim
   .exact H.elim
  .cases ha
 .rename_i s ha hs Ap;unfold WU at Ap;split at Ap
  .rename_i hu;split at H
   .rename_i b hb;split at H
    .rename_i l hl;unfold Instr.sliceAt;rw[Zm,ZH hu];simp only;unfold Instr.slice;rw[Zm,ZH hu];simp only[bK,a3,if_false];rw[Zm];refine NF hb hl ?_;exact H
    .exact H.elim
   .exact H.elim
  .cases Ap
 .exact H.elim
theorem uq{l c:D}(H:vMk (QR P t) (tn P) (tb P) (tz P) l c K h):hw P (Instr.makeSlice t l c) K h:=by
 unfold vMk at H;split at H
 .rename_i e k l k' c he;unfold QR at he;split at he
  .rename_i e' hu;simp only[Option.some.injEq]at he;subst he;unfold Zbq at H;split at H
   .rename_i n bytes z hn OC hz;split at H
    .rename_i hc;obtain⟨dW,h0,hlc,ZBs,Y7⟩:=hc;obtain⟨i0,Pg⟩:∃i,P.info? e'=G i:=by
      unfold tn at hn
      cases hi:P.info? e' with
      | none=>rw[hi]at hn;cases hn
      | some i=>exact⟨i,rfl⟩
     have NH:i0.bytes=bytes:=by unfold tb at OC;rw[Pg]at OC;simpa using OC
     have w1:IntKind.i64.wrap l=l:=cg l ⟨nc,nc⟩;have w2:IntKind.i64.wrap c=c:=cg c ⟨nc,nc⟩;have Zfo:¬((bytes:Int)*c>2 ^ 48):=nc;unfold Instr.makeSlice;simp only[Zm,ZH hu,asInt,asIntOf,ZN,XZ Pg,w1,w2,NH];have MA:¬((decide (c<0)||decide ((bytes:Int)*c>2 ^ 48)||decide (l<0)||decide (l>c))=true):=by
      simp;omega
     rw[if_neg MA];have SK:∀{Q:Unit->Hp->Prop} (b:Nat) (g:Hp),Q () g->hw P (askRoom b) Q g:=fun {Q} b g q=>by
      unfold askRoom;split<;>exact q
     rw[Zm];refine SK _ _ ?_;rw[Zm,run_sizeOf hn];have fin:∀z':Array D,(bT (c.toNat*n)).map (fun j=>z'[j%z'.size]!)=(Qf c.toNat z).toArray->hw P (do
       let a <-newRow e' ((bT (c.toNat*n)).map (fun j=>z'[j%z'.size]!))
       pure (Value.slice (G a) l.toNat c.toNat)) K h:=by
      intro z' An;rw[An];exact H
     split
     .rename_i h0;refine fin #[] ?_;have:(Qf c.toNat z).length=0:=by rw[Pz,dW,h0]
      rw[a1 this,h0];simp
     .rename_i h0;obtain⟨v,hv,hr⟩:=Ht hz;rw[Zm,hr];refine fin v.cells ?_;have:z≠[]:=by intro e;subst e;simp at dW;subst dW;simp at h0
      rw[hv,<-dW];exact kF z this c.toNat
    .exact H.elim
   .exact H.elim
  .cases he
 .exact H.elim
theorem Aq{op:Op}(H:TQ P T op ty K F h):Ee P T ⟨U,op,ty, "", #[],U⟩ K F h:=by
 have lift:∀{s:Sem D},hw P s K h->hw P (do pure (Next.value (<-s))) (Jt P T K) h:=fun {s} H=>by rw[Zm];exact H
 unfold TQ at H;split at H
 .exact H
 .exact H
 .rename_i c a b;show hw P (do pure (.value (if <-asBool (ev F c) then ev F a else ev F b))) (Jt P T K) h;unfold EU at H;split at H
  .rename_i t ht;rw[ht];cases t<;>exact H
  .exact H.elim
 .rename_i e;refine lift ?_;unfold uk tz at H;split at H
  .rename_i l hl
   cases hi:P.info? e with
   | none=>rw[hi]at hl;cases hl
   | some i=>
    rw[hi]at hl
    cases hz:i.zero with
    | none=>rw[au,hz]at hl;cases hl
    | some z=>
     rw[au,hz]at hl;simp only[a0,Option.some.injEq]at hl;subst hl;simp only[Instr.alloc,zeroValue,Zm,XZ hi,hz,newVar,newRow,newObj,ZN,hw]
     simpa using H
  .exact H.elim
 .rename_i e x;refine lift ?_;simp only[uk,Mv]at H;simp only[Instr.box,newVar,newRow,newObj,Zm,ZN];exact H
 .exact lift (fb H)
 .refine (?_:hw P (do Instr.storeAt _ _ _;pure Next.skip) (Jt P T K) h);rw[Zm];exact Ai H
 .exact lift (Aj H)
 .exact lift (um H)
 .rename_i x;unfold eK at H;split at H
  .rename_i a hx;show hw P (match ev F x with|.pointer U|.nilIface|.nilFunc=>_|.func (.method name) first captured=>_|x=>_) _ h;rw[hx];exact H
  .rename_i f a b hx;show hw P (match ev F x with|.pointer U|.nilIface|.nilFunc=>_|.func (.method name) first captured=>_|x=>_) _ h;rw[hx];exact H
  .exact H.elim
 .exact lift H
 .exact lift H
 .exact lift H
 .exact lift (Eh H)
 .rename_i fn first captured;refine lift ?_;have e1:∀l:Array a5,l.map (ev F)=(nr F l.toList).toArray:=fun l=>by rw[Cf,<-bo]
  show hw P (Instr.makeFunc fn (first.map (ev F)) (captured.map (ev F))) K h;rw[e1,e1];exact H
 .rename_i f args ts;exact fe (x:=f) (c:=⟨.value f,args,ts⟩) rfl rfl (by rw[Cf];simp) H
 .rename_i b args ts;have e1:args.map (ev F)=(nr F args.toList).toArray:=by rw[Cf,<-bo]
  unfold Pm at H;rw[<-e1]at H;exact H
 .exact lift (Am H)
 .exact lift (Ei H)
 .exact lift (nu H)
 .exact lift (nz H)
 .exact lift (nA H)
 .exact lift (uq H)
 .exact H
theorem QF{o:Oper}(H:TQ P T o.op o.type K F h):Ee P T o K F h:=Aq H
def Wo:List Oper->Env->Nat->D
 | [],_,_=>undef
 | o :: _,F,0=>match o.dst with|some t=>F t|none=>undef
 | _ :: l,F,n+1=>Wo l F n
def JF(v:D)(b:Bool)(A B:Prop):Prop:=match v with|al c=>if c=b then A else B|_=>B
def MB(P:aa)(T:am)(ops:List Oper)(N:Env->Hp->Prop):List Oper->Env->Hp->Prop
 | [],F,h=>N F h
 | ⟨d,op,ty,_,_,U⟩ :: l,F,h=>TQ P T op ty (fun v h'=>MB P T ops N l (Yz F d v) h') F h
 | ⟨d,op,ty,_,_,G (j,b)⟩ :: l,F,h=>JF (Wo ops F j) b (TQ P T op ty (fun v h'=>MB P T ops N l (Yz F d v) h') F h) (MB P T ops N l (Yz F d undef) h)
theorem Ej(ops:List Oper)(F:Env):∀j,WS ops.toArray F j=match Wo ops F j with|al b=>G b|_=>U:=by
 intro j;unfold WS;rw[cc]
 induction ops generalizing j with
 | nil=>rfl
 | cons o l ih=>
  cases j with
  | zero=>simp only[b4,au,Wo];cases o.dst<;>rfl
  | succ j=>simp only[b5,Wo];exact ih j
theorem XI(ops:List Oper)(F:Env)(d:Option Tmp)(op:Op)(pos:String)(WY:Array Edge)(j:Nat)(b:Bool){A B:Prop}(H:JF (Wo ops F j) b A B):
  (YI ops.toArray ⟨d,op,ty,pos,WY,G (j,b)⟩ F=true/\A)\/(YI ops.toArray ⟨d,op,ty,pos,WY,G (j,b)⟩ F=false/\B):=by
 unfold YI bp;simp only[Ej];unfold JF at H;split at H
 .rename_i c hc;split at H
  .rename_i Cg;exact .inl ⟨by simp[Cg],H⟩
  .rename_i Cg;exact .inr ⟨by simpa using Cg,H⟩
 .rename_i Y4;refine .inr ⟨?_,H⟩
  cases hv:Wo ops F j<;>first|rfl|exact (Y4 _ hv).elim
theorem Us{op:Op}{K':D->Hp->Prop}(hk:∀v h,K v h->K' v h)(H:TQ P T op ty K F h):Ee P T ⟨U,op,ty, "", #[],U⟩ K' F h:=Mr hk (Aq H)
theorem VH:∀(l:List Oper) (F:Env) (h:Hp),MB P T ops N l F h->nh P T ops.toArray N l F h
 | [],F,h,H=>H
 | ⟨d,op,ty,pos,WY,U⟩ :: l,F,h,H=>by
  show (if YI ops.toArray _ F=true then _ else _);rw[if_pos (by rfl)];exact Us (fun v h' q=>VH l _ _ q) H
 | ⟨d,op,ty,pos,WY,G (j,b)⟩ :: l,F,h,H=>by
  show (if YI ops.toArray _ F=true then _ else _);rcases XI ops F d op pos WY j b H with⟨hw,H⟩|⟨hw,H⟩
  .rw[if_pos hw];exact Us (fun v h' q=>VH l _ _ q) H
  .rw[hw,if_neg Hg];exact VH l _ _ H
def SL(P:aa)(T:am)(ops:List Oper)(S:Hp->Prop)(N:Env->Hp->Prop):List (Nat × Bool × Oper)->Env->Hp->Prop
 | [],F,h=>N F h
 | (_,true,⟨d,op,ty,_,_,U⟩) :: l,F,h=>∃v,(∀h',S h'->TQ P T op ty (fun v' LW=>v'=v/\LW=h') F h')/\SL P T ops S N l (Yz F d v) h
 | (_,false,⟨d,op,ty,_,_,U⟩) :: l,F,h=>TQ P T op ty (fun v h'=>S h'/\SL P T ops S N l (Yz F d v) h') F h
 | (_,true,⟨d,op,ty,_,_,G (j,b)⟩) :: l,F,h=>JF (Wo ops F j) b (∃v,(∀h',S h'->TQ P T op ty (fun v' LW=>v'=v/\LW=h') F h')/\SL P T ops S N l (Yz F d v) h) (SL P T ops S N l (Yz F d undef) h)
 | (_,false,⟨d,op,ty,_,_,G (j,b)⟩) :: l,F,h=>JF (Wo ops F j) b (TQ P T op ty (fun v h'=>S h'/\SL P T ops S N l (Yz F d v) h') F h) (SL P T ops S N l (Yz F d undef) h)
theorem Jw{S:Hp->Prop}:∀(l:List (Nat × Bool × Oper)) (F:Env) (h:Hp),SL P T ops S N l F h->Mt P T ops.toArray S N l F h
 | [],F,h,H=>H
 | (i,true,⟨d,op,ty,pos,WY,U⟩) :: l,F,h,H=>by
  show (if YI ops.toArray _ F=true then _ else _);rw[if_pos (by rfl)];obtain⟨v,hv,H⟩:=H;exact⟨v,fun h' hs=>QF (hv h' hs),Jw l _ _ H⟩
 | (i,false,⟨d,op,ty,pos,WY,U⟩) :: l,F,h,H=>by
  show (if YI ops.toArray _ F=true then _ else _);rw[if_pos (by rfl)];exact Us (fun v h' q=>⟨q.1,Jw l _ _ q.2⟩) H
 | (i,true,⟨d,op,ty,pos,WY,G (j,b)⟩) :: l,F,h,H=>by
  show (if YI ops.toArray _ F=true then _ else _);rcases XI ops F d op pos WY j b H with⟨hw,H⟩|⟨hw,H⟩
  .rw[if_pos hw];obtain⟨v,hv,H⟩:=H;exact⟨v,fun h' hs=>QF (hv h' hs),Jw l _ _ H⟩
  .rw[hw,if_neg Hg];exact Jw l _ _ H
 | (i,false,⟨d,op,ty,pos,WY,G (j,b)⟩) :: l,F,h,H=>by
  show (if YI ops.toArray _ F=true then _ else _);rcases XI ops F d op pos WY j b H with⟨hw,H⟩|⟨hw,H⟩
  .rw[if_pos hw];exact Us (fun v h' q=>⟨q.1,Jw l _ _ q.2⟩) H
  .rw[hw,if_neg Hg];exact Jw l _ _ H
theorem VS.Zfp{X:Nat->Env->Hp->Prop}{R:Env->Hp->Prop}{id:Nat}(hm:P.follows .mixedOrders=true)(Uk:SI n ops.toArray ((bn ops.toArray.size).map fun i=>(i,true))=true)(H:SL P T ops (fun h'=>h'=h) N (ops.map fun o=>(0,true,o)) F h):VS P n T (.region id ops.toArray true) N X R F h:=by
 refine VS.quiet hm Uk ?_;have key:∀(l:List Oper) (k:Nat) (F:Env),(∀j,l[j]? = ops[k+j]?)->SL P T ops (fun h'=>h'=h) N (l.map fun o=>(0,true,o)) F h ->
   SL P T ops (fun h'=>h'=h) N (Vq ops.toArray ((cz k (M l)).map fun i=>(i,true))) F h:=by
  intro l
  induction l with
  | nil=>intro k F _ H;exact H
  | cons o l ih=>
   intro k F hl H;have h0:ops[k]? = G o:=by simpa using (hl 0).symm
   have dX:∀j,l[j]? = ops[k+1+j]?:=fun j=>by have:=hl (j+1);simpa [ck,ct 1 j] using this
   have e:Vq ops.toArray ((cz k (o :: l).length).map fun i=>(i,true))=(k,true,o) :: Vq ops.toArray ((cz (k+1) (M l)).map fun i=>(i,true)):=by
    simp[Vq,List.range'_succ,h0]
   rw[e];obtain⟨d,op,ty,pos,WY,g⟩:=o
   cases g with
   | none=>
    obtain⟨v,hv,H⟩:=H;exact⟨v,hv,ih (k+1) _ dX H⟩
   | some jb=>
    obtain⟨j,b⟩:=jb;simp only[cV,SL]at H ⊢;unfold JF at *;split at H
    .split at H
     .rename_i Cg;rw[if_pos Cg];obtain⟨v,hv,H⟩:=H;exact⟨v,hv,ih (k+1) _ dX H⟩
     .rename_i Cg;rw[if_neg Cg];exact ih (k+1) _ dX H
    .exact ih (k+1) _ dX H
 have:=key ops 0 F (fun j=>by simp) H;rw[List.range_eq_range'];exact Jw _ _ _ this
def ur(v:D)(A B:Prop):Prop:=match v with|al b=>if b=true then A else B|_=>False
def vc(P:aa)(n:Nat)(T:am):Code->(Env->Hp->Prop)->(Nat->Env->Hp->Prop)->(Env->Hp->Prop)->Env->Hp->Prop
 | .skip,N,_,_,F,h=>N F h
 | .ret,_,_,R,F,h=>R F h
 | .exit j,_,X,_,F,h=>X j F h
 | .seq a b,N,X,R,F,h=>vc P n T a (fun F h=>vc P n T b N X R F h) X R F h
 | .cond c a b,N,X,R,F,h=>ur (ev F c) (vc P n T a N X R F h) (vc P n T b N X R F h)
 | .block j c,N,X,R,F,h=>vc P n T c N (fun i F h=>if i=j then N F h else X i F h) R F h
 | .region _ ops false,N,_,_,F,h=>MB P T ops.toList N ops.toList F h
 | c,N,X,R,F,h=>VS P n T c N X R F h
def codeOk(n:Nat):Code->Bool
 | .seq a b=>codeOk n a&&codeOk n b
 | .cond _ a b=>codeOk n a&&codeOk n b
 | .block _ c=>codeOk n c
 | .region _ ops false=>KT n ops
 | _=>true
theorem Qw:∀(c:Code) (N:Env->Hp->Prop) (X:Nat->Env->Hp->Prop) (R:Env->Hp->Prop) (F:Env) (h:Hp),codeOk n c=true->vc P n T c N X R F h->VS P n T c N X R F h:=by
 intro c
 induction c with
 | skip=>intro N X R F h _ H;exact VS.skip H
 | ret=>intro N X R F h _ H;exact VS.ret H
 | exit j=>intro N X R F h _ H;exact VS.exit H
 | seq a b iha ihb=>
  intro N X R F h Uk H;simp only[codeOk,aI]at Uk;exact VS.seq (VS.mono (iha _ _ _ _ _ Uk.1 H) (fun F h q=>ihb _ _ _ _ _ Uk.2 q) (fun _ _ _ q=>q) (fun _ _ q=>q))
 | cond c a b iha ihb=>
  intro N X R F h Uk H;simp only[codeOk,aI]at Uk;simp only[vc,ur]at H;split at H
  .rename_i t ht;refine VS.cond ht (fun hb=>?_) (fun hb=>?_)
   .rw[if_pos hb]at H;exact iha _ _ _ _ _ Uk.1 H
   .rw[if_neg (by simp[hb])]at H;exact ihb _ _ _ _ _ Uk.2 H
  .exact H.elim
 | block j c ih=>intro N X R F h Uk H;exact VS.block (ih _ _ _ _ _ Uk H)
 | region id ops draw=>
  intro N X R F h Uk H
  cases draw with
  | true=>exact H
  | false=>exact VS.region Uk (by simpa using VH _ _ _ H)
 | _=>intro N X R F h _ H;exact H
theorem Zd.Zbu{f:FuncId}{fn:Func}{c:Code}{l:List ResultVar}{args:List D}(hf:P.funcs[f]? = G fn)(hb:fn.body=G c)(hl:fn.results=l.toArray)(hn:c0 (M args) fn.ntmps=true)(Uk:codeOk fn.ntmps c=true)(H:vc P fn.ntmps T c (fun F h'=>HX P l F Q h') (fun _ _ _=>False) (fun F h'=>HX P l F Q h') (IY args 0) h):
  Zd P T f args.toArray h Q:=
 Zd.Hm hf hb hl (by simpa using hn) (by simpa using Qw _ _ _ _ _ _ Uk H)
end
section
variable {P:aa} {T:am} {K:D->Hp->Prop} {F:Env} {h:Hp} {ty:O}
def Zbv(P:aa)(T:am)(ops:List Oper)(N:Env->Hp->Prop)(l:List Oper)(F:Env)(d:Option Tmp):D->Hp->Prop:=fun v h=>MB P T ops N l (Yz F d v) h
theorem ut{l:List Oper}:Zbv P T ops N l F d v h=MB P T ops N l (Yz F d v) h:=rfl
theorem uw:MB P T ops N [] F h=N F h:=rfl
theorem ff{l:List Oper}{op:Op}{pos:String}{WY:Array Edge}:
  MB P T ops N (⟨d,op,ty,pos,WY,U⟩ :: l) F h=TQ P T op ty (Zbv P T ops N l F d) F h:=rfl
def fg(P:aa)(T:am)(ops:List Oper)(N:Env->Hp->Prop)(l:List Oper)(F:Env)(d:Option Tmp)(op:Op)(ty:O)(v:D)(b:Bool)(h:Hp):Prop:=
 JF v b (TQ P T op ty (Zbv P T ops N l F d) F h) (MB P T ops N l (Yz F d undef) h)
theorem fh{l:List Oper}{op:Op}{pos:String}{WY:Array Edge}{j:Nat}{b:Bool}:
  MB P T ops N (⟨d,op,ty,pos,WY,G (j,b)⟩ :: l) F h=fg P T ops N l F d op ty (Wo ops F j) b h:=rfl
theorem Ar{l:List Oper}{op:Op}{b c:Bool}:
  fg P T ops N l F d op ty (.bool c) b h=if c=b then TQ P T op ty (Zbv P T ops N l F d) F h else MB P T ops N l (Yz F d undef) h:=rfl
def Zi5(P:aa)(n:Nat)(T:am)(b:Code)(N:Env->Hp->Prop)(X:Nat->Env->Hp->Prop)(R:Env->Hp->Prop):Env->Hp->Prop:=fun F h=>vc P n T b N X R F h
def Zi6(j:Nat)(N:Env->Hp->Prop)(X:Nat->Env->Hp->Prop):Nat->Env->Hp->Prop:=fun i F h=>if i=j then N F h else X i F h
def As:Nat->Env->Hp->Prop:=fun _ _ _=>False
def nC(P:aa)(l:List ResultVar)(Q:D->Hp->Prop):Env->Hp->Prop:=fun F h=>HX P l F Q h
def Zej(P:aa)(n:Nat)(T:am)(v:D)(a b:Code)(N:Env->Hp->Prop)(X:Nat->Env->Hp->Prop)(R:Env->Hp->Prop)(F:Env)(h:Hp):Prop:=
 ur v (vc P n T a N X R F h) (vc P n T b N X R F h)
section
variable {n:Nat} {N:Env->Hp->Prop} {X:Nat->Env->Hp->Prop} {R:Env->Hp->Prop}
theorem uy{b:Code}:Zi5 P n T b N X R F h=vc P n T b N X R F h:=rfl
theorem uz{j:Nat}:Zi6 j N X i F h=if i=j then N F h else X i F h:=rfl
theorem nE:As i F h=False:=rfl
theorem uA{l:List ResultVar}:nC P l Q F h=HX P l F Q h:=rfl
theorem Zbw:vc P n T .skip N X R F h=N F h:=rfl
theorem Zfq:vc P n T .ret N X R F h=R F h:=rfl
theorem Zbx{j:Nat}:vc P n T (.exit j) N X R F h=X j F h:=rfl
theorem Zfr{a b:Code}:vc P n T (.seq a b) N X R F h=vc P n T a (Zi5 P n T b N X R) X R F h:=rfl
theorem Zby{c:a5}{a b:Code}:vc P n T (.cond c a b) N X R F h=Zej P n T (ev F c) a b N X R F h:=rfl
theorem uB{j:Nat}{c:Code}:vc P n T (.block j c) N X R F h=vc P n T c N (Zi6 j N X) R F h:=rfl
theorem nF{id:Nat}{l:List Oper}:vc P n T (.region id l.toArray false) N X R F h=MB P T l N l F h:=rfl
theorem Zbz{id:Nat}{l:Array Oper}:vc P n T (.region id l true) N X R F h=VS P n T (.region id l true) N X R F h:=rfl
theorem ZbA{c:Code}:vc P n T (.loop c) N X R F h=VS P n T (.loop c) N X R F h:=rfl
theorem fi{a b:Code}{t:Bool}:Zej P n T (al t) a b N X R F h=if t=true then vc P n T a N X R F h else vc P n T b N X R F h:=rfl
end
theorem Zd.uC{f:FuncId}{fn:Func}{c:Code}{l:List ResultVar}{args:List D}(hf:P.funcs[f]? = G fn)(hb:fn.body=G c)(hl:fn.results=l.toArray)(hn:c0 (M args) fn.ntmps=true)(Uk:codeOk fn.ntmps c=true)(H:vc P fn.ntmps T c (nC P l Q) As (nC P l Q) (IY args 0) h):Zd P T f args.toArray h Q:=Zd.Zbu hf hb hl hn Uk H
theorem Zd.XS{f:FuncId}{fn:Func}{c:Code}{l:List ResultVar}(args:List D)(hf:P.funcs[f]? = G fn)(H:vc P fn.ntmps T c (nC P l Q) As (nC P l Q) (IY args 0) h)(hb:fn.body=G c:=by rfl)(hl:fn.results=l.toArray:=by rfl)(hn:c0 (M args) fn.ntmps=true:=by rfl)(Uk:codeOk fn.ntmps c=true:=by rfl):Zd P T f args.toArray h Q:=Zd.uC hf hb hl hn Uk H
def XK(I:Env->Hp->Prop)(μ:Env->Hp->Nat)(m:Nat):Env->Hp->Prop:=fun F h=>I F h/\μ F h<m
theorem VS.Yj{X:Nat->Env->Hp->Prop}{R:Env->Hp->Prop}{c:Code}(I:Env->Hp->Prop)(μ:Env->Hp->Nat)(Uk:codeOk n c=true)(h0:I F h)(round:∀F h,I F h->vc P n T c (XK I μ (μ F h)) X R F h):VS P n T (.loop c) N X R F h:=
 VS.loop I μ h0 fun F h hI=>Qw _ _ _ _ _ _ Uk (round F h hI)
theorem Zd.use{f:FuncId}{args:Array D}(c:Zd P T f args h Q)(H:∀v h',Q v h'->K v h'):Zd P T f args h K:=c.mono H
theorem Zd.pure{f:FuncId}{args:Array D}{r:D}(c:Zd P T f args h fun v h'=>v=r/\h'=h)(H:K r h):Zd P T f args h K:=
 c.mono fun _ _ ⟨e1,e2⟩=>by subst e1;subst e2;exact H
def ap(B:D->Prop)(v:D):Prop:=B v
def OD(v:D)(h:Hp):D->Hp->Prop:=fun v' h'=>v'=v/\h'=h
def LX(P:aa)(T:am)(ops:List Oper)(N:Env->Hp->Prop):List Oper->Env->Hp->Prop
 | [],F,h=>N F h
 | ⟨d,op,ty,_,_,U⟩ :: l,F,h=>∃v,TQ P T op ty (OD v h) F h/\LX P T ops N l (Yz F d v) h
 | ⟨d,op,ty,_,_,G (j,b)⟩ :: l,F,h=>JF (Wo ops F j) b (∃v,TQ P T op ty (OD v h) F h/\LX P T ops N l (Yz F d v) h) (LX P T ops N l (Yz F d undef) h)
theorem Ut:∀(l:List Oper) (F:Env),LX P T ops N l F h->SL P T ops (fun h'=>h'=h) N (l.map fun o=>(0,true,o)) F h
 | [],_,H=>H
 | ⟨d,op,ty,pos,WY,U⟩ :: l,F,H=>by
  obtain⟨v,hv,H⟩:=H;exact⟨v,fun h' e=>by subst e;exact hv,Ut l _ H⟩
 | ⟨d,op,ty,pos,WY,G (j,b)⟩ :: l,F,H=>by
  simp only[LX,JF]at H;simp only[cV,SL,JF];split at H
  .split at H
   .rename_i Cg;rw[if_pos Cg];obtain⟨v,hv,H⟩:=H;exact⟨v,fun h' e=>by subst e;exact hv,Ut l _ H⟩
   .rename_i Cg;rw[if_neg Cg];exact Ut l _ H
  .exact Ut l _ H
theorem VS.q{X:Nat->Env->Hp->Prop}{R:Env->Hp->Prop}{id:Nat}(hm:P.follows .mixedOrders=true)(Uk:SI n ops.toArray ((bn ops.toArray.size).map fun i=>(i,true))=true)(H:LX P T ops N ops F h):VS P n T (.region id ops.toArray true) N X R F h:=VS.Zfp hm Uk (Ut _ _ H)
def qK(P:aa)(T:am)(ops:List Oper)(N:Env->Hp->Prop)(l:List Oper)(F:Env)(d:Option Tmp)(h:Hp):D->Prop:=fun v=>LX P T ops N l (Yz F d v) h
def Ch(P:aa)(T:am)(op:Op)(ty:O)(B:D->Prop)(F:Env)(h:Hp):Prop:=∃v,TQ P T op ty (OD v h) F h/\ap B v
def uD(P:aa)(T:am)(ops:List Oper)(N:Env->Hp->Prop)(l:List Oper)(F:Env)(d:Option Tmp)(op:Op)(ty:O)(v:D)(b:Bool)(h:Hp):Prop:=
 JF v b (Ch P T op ty (qK P T ops N l F d h) F h) (LX P T ops N l (Yz F d undef) h)
theorem uE:LX P T ops N [] F h=N F h:=rfl
theorem fj{l:List Oper}{op:Op}{pos:String}{WY:Array Edge}:
  LX P T ops N (⟨d,op,ty,pos,WY,U⟩ :: l) F h=Ch P T op ty (qK P T ops N l F d h) F h:=rfl
theorem fm{l:List Oper}{op:Op}{pos:String}{WY:Array Edge}{j:Nat}{b:Bool}:
  LX P T ops N (⟨d,op,ty,pos,WY,G (j,b)⟩ :: l) F h=uD P T ops N l F d op ty (Wo ops F j) b h:=rfl
theorem At{l:List Oper}{op:Op}{b c:Bool}:
  uD P T ops N l F d op ty (al c) b h=if c=b then Ch P T op ty (qK P T ops N l F d h) F h else LX P T ops N l (Yz F d undef) h:=rfl
theorem Zfs{l:List Oper}:qK P T ops N l F d h v=LX P T ops N l (Yz F d v) h:=rfl
def qR(x:Option D)(B:D->Prop):Prop:=match x with|some v=>ap B v|none=>False
theorem ZbB{B:D->Prop}:qR (G v) B=B v:=rfl
theorem tq{B:D->Prop}:(∃u,OD u h v h/\ap B u)=B v:=by
 apply propext;constructor
 .rintro⟨u,⟨e,_⟩,H⟩;subst e;exact H
 .intro H;exact⟨v,⟨rfl,rfl⟩,H⟩
section
variable {B:D->Prop}
theorem uF:Ch P T (.move x) ty B F h=B (ev F x):=tq
theorem fo:Ch P T (.assign x) ty B F h=B (ev F x):=tq
def uG(c a b:D)(B:D->Prop):Prop:=match c with|al t=>B (if t then a else b)|_=>False
theorem fp{t:Bool}{a b:D}:uG (al t) a b B=B (if t=true then a else b):=rfl
theorem uH{c a b:a5}:Ch P T (.pick c a b) ty B F h=uG (ev F c) (ev F a) (ev F b) B:=by
 show (∃u,EU _ _ _ (OD u h) h/\ap B u)=_;unfold EU uG
 cases ev F c<;>first|exact tq|simp
def kG(s:Option Bool)(n:Option Nat)(p:D)(B:D->Prop)(h:Hp):Prop:=
 match p with
 | J (G a)=>match s,n with
  | some false,_=>qR (hc h a) B
  | some true,G n=>qR ((rd h a n).map fun l=>aU l.toArray) B
  | _,_=>False
 | _=>False
theorem nG{n:Option Nat}:kG (G false) n (J (G a)) B h=qR (hc h a) B:=rfl
theorem fq:kG (G true) (G n) (J (G a)) B h=qR ((rd h a n).map fun l=>aU l.toArray) B:=rfl
theorem uI:Ch P T (.load t x) ty B F h=kG (ta P t) (tn P t) (ev F x) B h:=by
 show (∃u,Mw _ _ _ (OD u h) h/\ap B u)=_;unfold Mw kG
 cases ev F x with
 | pointer a=>
  cases a with
  | none=>simp
  | some a=>
   simp only;rcases ta P t with _|b
   .simp
   .cases b
    .simp only[IZ,qR]
     cases hc h a with
     | none=>simp
     | some v=>exact tq
    .rcases tn P t with _|n
     .simp
     .simp only[HY,qR]
      cases rd h a n with
      | none=>simp
      | some v=>exact tq
 | _=>simp
def fu(f:Option Nat)(p:D)(B:D->Prop):Prop:=match f,p with|some o,J (G a)=>B (J (G (a.add o)))|_,_=>False
theorem Au{f:Nat}:fu (G o) (J (G ⟨b,f,U⟩)) B=B (J (G ⟨b,f+o,U⟩)):=by
 show B (J (G (Addr.add _ _)))=_;rw[XJ]
theorem nH:Ch P T (.fieldAddr t x i) ty B F h=fu (tf P t i) (ev F x) B:=by
 show (∃u,NC _ _ (OD u h) h/\ap B u)=_;unfold NC fu;rcases tf P t i with _|o
 .simp
 .cases ev F x with
  | pointer a=>cases a with
   | none=>simp
   | some a=>exact tq
  | _=>simp
def qIx(arr:Option (Nat × O))(sl:Option O)(n:O->Option Nat)(p i:D)(B:D->Prop):Prop:=
 match i with
 | .int _ i=>(match arr,sl,p with
  | some (len,e),U,J (G a)=>(match n e with
   | some n=>if 0<=i/\i<(len:Int) then B (J (G (a.add (i.toNat*n)))) else False
   | none=>False)
  | none,G e,Z (G a) len _=>(match n e with
   | some n=>if 0<=i/\i<(len:Int) then B (J (G (a.add (i.toNat*n)))) else False
   | none=>False)
  | _,_,_=>False)
 | _=>False
def ZbC(m:Option Nat)(len:Nat)(a:Addr)(i:Int)(B:D->Prop):Prop:=
 match m with|some m=>if 0<=i/\i<(len:Int) then B (J (G (a.add (i.toNat*m)))) else False|none=>False
theorem ZbD{n:O->Option Nat}{i:Int}:qIx (G (len,e)) U n (J (G a)) (.int k i) B=ZbC (n e) len a i B:=rfl
theorem nI{n:O->Option Nat}{i:Int}:qIx U (G e) n (Z (G a) len cap) (.int k i) B=ZbC (n e) len a i B:=rfl
theorem nJ{f:Nat}{i:Int}:ZbC (G m) len ⟨b,f,U⟩ i B=if 0<=i/\i<(len:Int) then B (J (G ⟨b,f+i.toNat*m,U⟩)) else False:=by
 simp only[ZbC,XJ]
theorem NJ{c:Prop}[Decidable c]{A:D->Prop}:(∃u,(if c then A u else False)/\ap B u)=if c then (∃u,A u/\ap B u) else False:=by
 split<;>simp
theorem Zft{i:a5}:Ch P T (.indexAddr t x i) ty B F h=qIx (Xr P t) (QR P t) (tn P) (ev F x) (ev F i) B:=by
 show (∃u,vIx _ _ _ _ _ (OD u h) h/\ap B u)=_;unfold vIx qIx
 cases ev F i with
 | int k i=>
  simp only;rcases Xr P t with _|⟨len,e⟩
  .rcases QR P t with _|e
   .simp
   .cases ev F x with
    | slice a len cap=>
     cases a with
     | none=>simp
     | some a=>
      simp only;rcases tn P e with _|n
      .simp
      .simp only;rw[NJ,tq]
    | _=>simp
  .rcases QR P t with _|e'
   .cases ev F x with
    | pointer a=>
     cases a with
     | none=>simp
     | some a=>
      simp only;rcases tn P e with _|n
      .simp
      .simp only;rw[NJ,tq]
    | _=>simp
   .simp
 | _=>simp
def MC(v:D)(i:Nat)(B:D->Prop):Prop:=match v with|.tuple vs=>qR (vs[i]?) B|_=>False
theorem H8:MC (.tuple l.toArray) i B=qR (nth l i) B:=by simp[MC,YR]
theorem Av:Ch P T (.extract x i) ty B F h=MC (ev F x) i B:=by
 show (∃u,WV _ _ (OD u h) h/\ap B u)=_;unfold WV MC
 cases ev F x with
 | tuple vs=>
  simp only[IZ,qR]
  cases vs[i]? with
  | none=>simp
  | some v=>exact tq
 | _=>simp
def Zfu(v:D)(B:D->Prop):Prop:=match v with|J (G a)=>B (J (G a))|.func (.func f) x y=>B (.func (.func f) x y)|_=>False
theorem Ci:Zfu (J (G a)) B=B (J (G a)):=rfl
theorem ZbE:Ch P T (.nilCheck x) ty B F h=Zfu (ev F x) B:=by
 show (∃u,eK _ (OD u h) h/\ap B u)=_;unfold eK Zfu
 cases ev F x with
 | pointer a=>cases a with
  | none=>simp
  | some a=>exact tq
 | func f a b=>cases f with
  | func f=>exact tq
  | _=>simp
 | _=>simp
theorem ZbF{op:BinOp}{t':O}:Ch P T (.binOp op t x y t') ty B F h = ∃u,XU P op t x y (ev F x) (ev F y) (OD u h) h/\ap B u:=rfl
theorem Zfv{op:UnOp}:Ch P T (.unOp op t x) ty B F h = ∃u,vUn P op (ev F x) (OD u h) h/\ap B u:=rfl
theorem uJ{s d:O}:Ch P T (.convert s d x) ty B F h = ∃u,Mx P s d (ev F x) (OD u h) h/\ap B u:=rfl
theorem Zfw{b:Builtin}{args:Array a5}{ts:Array O}:Ch P T (.call ⟨.builtin b,args,ts⟩) ty B F h =
  ∃u,Pm P T b ts ty (args.map fun|.const _=>true|_=>false) (nr F args.toList) (OD u h) h/\ap B u:=rfl
end
theorem Zfx{t:Nat}:ev F (.tmp t)=F t:=rfl
theorem uK:ev F (.const v)=v:=rfl
theorem nK{g:Nat}:ev F (.global g)=J (G ⟨g,0,U⟩):=rfl
theorem ZbG{g:Nat}:ev F (.func g)=.func (.func g) #[] #[]:=rfl
theorem Zr{d:Nat}{t:Nat}:Yz F (G d) v t=if t=d then v else F t:=rfl
theorem nL:Yz F U v=F:=rfl
theorem ZbH{d:Nat}{t:Nat}:upd F d v t=if t=d then v else F t:=rfl
theorem fv{t:Bool}{a b:D}:EU (al t) a b K h=K (if t=true then a else b) h:=rfl
theorem nM:uk (G l) t K h=K (J (G ⟨h.size,0,U⟩)) (h.push (Y l.toArray t)):=rfl
theorem nN:IZ (G v) K h=K v h:=rfl
theorem nO:HY (G l) K h=K (aU l.toArray) h:=rfl
theorem EX{n:Option Nat}:Mw (G false) n (J (G a)) K h=IZ (hc h a) K h:=rfl
theorem H9:Mw (G true) (G n) (J (G a)) K h=HY (rd h a n) K h:=rfl
theorem uL:kw (G h') K=K undef h':=rfl
theorem fw{i:Int}:Vr (G n) (J (G a)) (.int k i) K h=if n=1 then kw (QP h a (.int k i)) K else False:=rfl
theorem Aw{b:Bool}:Vr (G n) (J (G a)) (al b) K h=if n=1 then kw (QP h a (al b)) K else False:=rfl
theorem Cj{p:Option Addr}{l c:Nat}:Vr (G n) (J (G a)) (Z p l c) K h=if n=1 then kw (QP h a (Z p l c)) K else False:=rfl
theorem Ek{s:ByteArray}:Vr (G n) (J (G a)) (.string s) K h=if n=1 then kw (QP h a (.string s)) K else False:=rfl
theorem Ga{p:Option Addr}:Vr (G n) (J (G a)) (.pointer p) K h=if n=1 then kw (QP h a (.pointer p)) K else False:=rfl
theorem fy{p:Option Nat}:Vr (G n) (J (G a)) (.map p) K h=if n=1 then kw (QP h a (.map p)) K else False:=rfl
theorem Ax{f:Fn}{x y:Array D}:Vr (G n) (J (G a)) (.func f x y) K h=if n=1 then kw (QP h a (.func f x y)) K else False:=rfl
theorem Gb:Vr (G n) (J (G a)) .nilFunc K h=if n=1 then kw (QP h a .nilFunc) K else False:=rfl
theorem fB:Vr (G n) (J (G a)) (aU l.toArray) K h=if n=(M l) then kw (wr h a l) K else False:=rfl
theorem Ay{f:Nat}:NC (G o) (J (G ⟨b,f,U⟩)) K h=K (J (G ⟨b,f+o,U⟩)) h:=by
 show K (J (G (Addr.add _ _))) h=_;rw[XJ]
def ZbI(m:Option Nat)(len:Nat)(a:Addr)(i:Int)(K:D->Hp->Prop)(h:Hp):Prop:=
 match m with|some m=>if 0<=i/\i<(len:Int) then K (J (G (a.add (i.toNat*m)))) h else False|none=>False
theorem ZbJ{n:O->Option Nat}{i:Int}:
  vIx (G (len,e)) U n (J (G a)) (.int k i) K h=ZbI (n e) len a i K h:=rfl
theorem nP{n:O->Option Nat}{i:Int}:
  vIx U (G e) n (Z (G a) len cap) (.int k i) K h=ZbI (n e) len a i K h:=rfl
theorem nQ{f:Nat}{i:Int}:ZbI (G m) len ⟨b,f,U⟩ i K h=if 0<=i/\i<(len:Int) then K (J (G ⟨b,f+i.toNat*m,U⟩)) h else False:=by
 simp only[ZbI,XJ]
theorem Gc:WV (.tuple l.toArray) i K h=IZ (nth l i) K h:=by simp[WV,YR]
theorem Ck:eK (J (G a)) K h=K (J (G a)) h:=rfl
theorem nR{f:FuncId}{x y:Array D}:eK (.func (.func f) x y) K h=K (.func (.func f) x y) h:=rfl
theorem fE{f:FuncId}(hg:goes P f=true):H4 P T (.func (.func f) #[] #[]) l K h=Zd P T f l.toArray h K:=by
 simp only[H4,hg,↓reduceIte];simp
theorem uM{a b:Int}:XU P .add t x y (.int k a) (.int k b) K h=K (.int k (k.wrap (a+b))) h:=by
 simp[XU,binOp,Op.intArith,ZN,eqGuard]
theorem uN{a b:Int}:XU P .sub t x y (.int k a) (.int k b) K h=K (.int k (k.wrap (a-b))) h:=by
 simp[XU,binOp,Op.intArith,ZN,eqGuard]
theorem uO{a b:Int}:XU P .mul t x y (.int k a) (.int k b) K h=K (.int k (k.wrap (a*b))) h:=by
 simp[XU,binOp,Op.intArith,ZN,eqGuard]
theorem uP{a b:Int}:XU P .quo t x y (.int k a) (.int k b) K h=if b=0 then False else K (.int k (k.wrap (a.tdiv b))) h:=by
 simp only[XU,binOp,Op.intDiv,Zm,eqGuard];by_cases hb:b=0
 .subst hb;simp[runtimePanic,goPanic,Zm,hw,ZN,program]
 .simp[hb,ZN]
theorem uQ{a b:Int}:XU P .rem t x y (.int k a) (.int k b) K h=if b=0 then False else K (.int k (a.tmod b)) h:=by
 simp only[XU,binOp,Op.intDiv,Zm,eqGuard];by_cases hb:b=0
 .subst hb;simp[runtimePanic,goPanic,Zm,hw,ZN,program]
 .simp[hb,ZN]
def YM(op:BinOp)(k:IntKind)(a b:Int):Int:=
 let x:=BitVec.ofInt k.bits a
 let y:=BitVec.ofInt k.bits b
 k.wrap (match op with|.and=>x &&& y|.or=>x ||| y|.xor=>x ^^^ y|_=>x &&& ~~~y).toNat
theorem uR{a b:Int}:XU P .and t x y (.int k a) (.int k b) K h=K (.int k (YM .and k a b)) h:=by
 simp[XU,binOp,Op.intBits,ZN,eqGuard,YM]
theorem ZbK{a b:Int}:XU P .or t x y (.int k a) (.int k b) K h=K (.int k (YM .or k a b)) h:=by
 simp[XU,binOp,Op.intBits,ZN,eqGuard,YM]
theorem uS{a b:Int}:XU P .xor t x y (.int k a) (.int k b) K h=K (.int k (YM .xor k a b)) h:=by
 simp[XU,binOp,Op.intBits,ZN,eqGuard,YM]
theorem Az{a b:Int}:XU P .andNot t x y (.int k a) (.int k b) K h=K (.int k (YM .andNot k a b)) h:=by
 simp[XU,binOp,Op.intBits,ZN,eqGuard,YM]
def Xm(k:IntKind)(a b:Int):Int:=k.wrap (a*2 ^ min b.toNat k.bits)
def Xx(k:IntKind)(a b:Int):Int:=a.fdiv (2 ^ min b.toNat k.bits)
theorem uT{k':IntKind}{a b:Int}:XU P .shl t x y (.int k a) (.int k' b) K h=if b<0 then False else K (.int k (Xm k a b)) h:=by
 simp only[XU,binOp,Op.shift,Zm,eqGuard];by_cases hb:b<0
 .simp[hb,runtimePanic,goPanic,Zm,hw,ZN,program]
 .simp[hb,ZN,Xm]
theorem uU{k':IntKind}{a b:Int}:XU P .shr t x y (.int k a) (.int k' b) K h=if b<0 then False else K (.int k (Xx k a b)) h:=by
 simp only[XU,binOp,Op.shift,Zm,eqGuard];by_cases hb:b<0
 .simp[hb,runtimePanic,goPanic,Zm,hw,ZN,program]
 .simp[hb,ZN,Xx]
theorem uV{a b:Int}:XU P .eql t x y (.int k a) (.int k b) K h=K (al (decide (a=b))) h:=by
 simp[XU,binOp,Op.intCmp,ZN,eqGuard];rfl
theorem uW{a b:Int}:XU P .neq t x y (.int k a) (.int k b) K h=K (al (decide (a≠b))) h:=by
 simp[XU,binOp,Op.intCmp,ZN,eqGuard];have:(a != b) = !decide (a=b):=by rfl
 rw[this]
theorem uX{a b:Int}:XU P .lss t x y (.int k a) (.int k b) K h=K (al (decide (a<b))) h:=by
 simp[XU,binOp,Op.intCmp,ZN,eqGuard]
theorem uY{a b:Int}:XU P .leq t x y (.int k a) (.int k b) K h=K (al (decide (a<=b))) h:=by
 simp[XU,binOp,Op.intCmp,ZN,eqGuard]
theorem uZ{a b:Int}:XU P .gtr t x y (.int k a) (.int k b) K h=K (al (decide (b<a))) h:=by
 simp[XU,binOp,Op.intCmp,ZN,eqGuard]
theorem vd{a b:Int}:XU P .geq t x y (.int k a) (.int k b) K h=K (al (decide (b<=a))) h:=by
 simp[XU,binOp,Op.intCmp,ZN,eqGuard]
theorem ZbL{b:Bool}:vUn P .not (al b) K h=K (al (!b)) h:=rfl
theorem ZbM{a:Int}:vUn P .neg (.int k a) K h=K (.int k (k.wrap (0-a))) h:=rfl
theorem ZbN{a:Int}:vUn P .xor (.int k a) K h=K (.int k (YM .xor k (if k.signed then -1 else k.max) a)) h:=rfl
def ve(d:Option IntKind)(a:Int)(K:D->Hp->Prop)(h:Hp):Prop:=match d with|some k=>K (.int k (k.wrap a)) h|none=>False
theorem AA{a:Int}:ve (G k) a K h=K (.int k (k.wrap a)) h:=rfl
theorem nT{s d:O}{j:IntKind}{a:Int}(hs:(Ef P s).isSome=true)(hd:(Ef P d).isSome=true):Mx P s d (.int j a) K h=ve (Ef P d) a K h:=by
 unfold Ef at hd hs;split at hd
 .rename_i k1 h1;split at hs
  .rename_i k2 h2;simp only[Mx,convert,Zm,ZH h1,ZH h2];unfold Ef;rw[h1];rfl
  .cases hs
 .cases hd
theorem nU{a b:ByteArray}:XU P .eql t x y (.string a) (.string b) K h=K (al (a.toList == b.toList)) h:=by
 simp[XU,binOp,Op.stringOp,ZN,eqGuard]
theorem nV{a b:ByteArray}:XU P .neq t x y (.string a) (.string b) K h=K (al (!(a.toList == b.toList))) h:=by
 simp[XU,binOp,Op.stringOp,ZN,eqGuard]
theorem Cl{cs:Array Bool}{p:Option Addr}{l c:Nat}(ht:(QR P t).isSome=true):
  Pm P T .len #[t] ty cs [Z p l c] K h=K (.int .i64 l) h:=by
 unfold QR at ht;split at ht
 .rename_i e' hu;simp[Pm,builtin,c2,Zm,ZN,ZH hu,Jt,goInt]
 .cases ht
theorem nW(h:WU P t=true):P.underlying t=G .string:=by
 unfold WU at h;split at h
 .assumption
 .cases h
theorem El{cs:Array Bool}{s:ByteArray}(ht:WU P t=true):
  Pm P T .len #[t] ty cs [.string s] K h=K (.int .i64 s.size) h:=by
 simp[Pm,builtin,c2,Zm,ZN,ZH (nW ht),Jt,goInt]
theorem ZbO{ts:Array O}{cs:Array Bool}{k':IntKind}{a b:Int}:Pm P T .min ts ty cs [.int k a,.int k' b] K h=K (.int k (if b<a then b else a)) h:=by
 simp[Pm,builtin,Builtin.min_,Builtin.min2,ZN,Jt]
theorem ZbP{ts:Array O}{cs:Array Bool}{k':IntKind}{a b:Int}:Pm P T .max ts ty cs [.int k a,.int k' b] K h=K (.int k (if b>a then b else a)) h:=by
 simp[Pm,builtin,Builtin.max_,Builtin.max2,ZN,Jt]
end
section
variable {P:aa} {T:am} {K:D->Hp->Prop} {F:Env} {h:Hp} {ty:O} {B:D->Prop}
def vf(p:Option (Nat × Nat))(place:Nat->Option (Nat × Nat))(cs:List D)(v:D)(l:List (Nat × D)):Option (List D):=
 match p with
 | some (o,s)=>if (cl v).length=s/\o+s<=(M cs) then WX place (Y9 cs o (cl v)) l else U
 | none=>U
theorem nX:WX place cs []=G cs:=rfl
theorem fF{l:List (Nat × D)}:WX place cs ((i,v) :: l)=vf (place i) place cs v l:=rfl
theorem AB{s:Nat}{l:List (Nat × D)}:
  vf (G (o,s)) place cs v l=if (cl v).length=s/\o+s<=(M cs) then WX place (Y9 cs o (cl v)) l else U:=rfl
theorem nY:My n i=G (i*n,n):=rfl
theorem Em{z:List D}{pl:List (Nat × Nat)}{n:O->Option Nat}:NE (G z) (G pl) U n parts K h=HY (WX (nth pl) z parts) K h:=rfl
theorem fG{z:List D}{e:Nat}{n:O->Option Nat}:NE (G z) U (G (m,e)) n parts K h=Ho (n e) z parts K h:=rfl
theorem Cn{z:List D}:Ho (G n) z parts K h=HY (WX (My n) z parts) K h:=rfl
theorem fH:kA e len (G l) K h=K (Z (G ⟨h.size,0,U⟩) len len) (h.push (Y l.toArray e)):=rfl
theorem Gd{z:List D}:Oz e (G n) (G z) len parts K h=if (M z)=n/\len*n<=16777216 then kA e len (Hq n len z parts) K h else False:=rfl
theorem En{n:O->Option Nat}{z:O->Option (List D)}:Mz (G e) n z len parts K h=Oz e (n e) (z e) len parts K h:=rfl
theorem fI:KX (G true) (G n) cs o K h=K (aU ((cs.drop o).take n).toArray) h:=rfl
theorem AC{n:Option Nat}:KX (G false) n cs o K h=IZ (nth cs o) K h:=rfl
theorem nZ{t:Nat}{a:O->Option Bool}{n:O->Option Nat}:ul (G (o,t)) a n (aU cs.toArray) K h=KX (a t) (n t) cs o K h:=rfl
theorem vg{e:Nat}{a:O->Option Bool}{n:O->Option Nat}{i:Int}:nt (G (len,e)) false a n (aU cs.toArray) (.int k i) K h=kC (n e) (a e) len cs i K h:=rfl
theorem fJ{a:Option Bool}{i:Int}:kC (G m) a len cs i K h=if 0<=i/\i<(len:Int) then KX a (G m) cs (i.toNat*m) K h else False:=rfl
theorem vj{a:O->Option Bool}{n:O->Option Nat}{s:ByteArray}{i:Int}:nt U true a n (.string s) (.int k i) K h=if 0<=i/\i<(s.size:Int) then K (.int .u8 ((s.data.toList.getD i.toNat 0).toNat:Nat)) h else False:=rfl
theorem ZbQ{d y:Nat}:sb U d y=G d:=rfl
theorem Zfy{i:Int}{d y:Nat}:sb (G (.int k i)) d y=if 0<=i/\i<=(y:Int) then G i.toNat else U:=rfl
def Nh(a:Option Addr)(n cap b:Nat)(l:Option Nat)(K:D->Hp->Prop)(h:Hp):Prop:=
 match l with|some l=>K (Z (if cap=l then a else a.map (·.add (l*n))) (b-l) (cap-l)) h|none=>False
def vm(n:Nat)(a:Option Addr)(cap:Nat)(lo:Option D)(b:Option Nat)(K:D->Hp->Prop)(h:Hp):Prop:=
 match b with|some b=>Nh a n cap b (sb lo 0 b) K h|none=>False
theorem fK{a:Option Addr}{hi:Option D}:RY (G n) a len cap lo hi K h=vm n a cap lo (sb hi len cap) K h:=by
 unfold RY vm Nh
 cases sb hi len cap<;>rfl
theorem fL{a:Option Addr}:vm n a cap lo (G b) K h=Nh a n cap b (sb lo 0 b) K h:=rfl
theorem fM{l k:Nat}:Nh (G ⟨k,o,U⟩) n cap b (G l) K h=K (Z (if cap=l then G ⟨k,o,U⟩ else G ⟨k,o+l*n,U⟩) (b-l) (cap-l)) h:=by
 simp only[Nh,a0,XJ]
theorem fN{l:Nat}:Nh U n cap b (G l) K h=K (Z U (b-l) (cap-l)) h:=by
 simp[Nh]
theorem fO{e:Nat}{str:Bool}{n:O->Option Nat}{a:Option Addr}{hi:Option D}:Eg U (G e) str n (Z a len cap) lo hi U K h=RY (n e) a len cap lo hi K h:=rfl
def vo(n:Option Nat)(a:Option Addr)(len:Nat)(lo:Option D)(hv:D)(m:Option Nat)(K:D->Hp->Prop)(h:Hp):Prop:=match m with|some m=>RY n a len m lo (G hv) K h|none=>False
theorem fP{n:Option Nat}{a:Option Addr}{hv:D}:vo n a len lo hv (G m) K h=RY n a len m lo (G hv) K h:=rfl
theorem vq{e:Nat}{str:Bool}{n:O->Option Nat}{a:Option Addr}{hv mv:D}:Eg U (G e) str n (Z a len cap) lo (G hv) (G mv) K h=vo (n e) a len lo hv (sb (G mv) 0 cap) K h:=by
 simp only[Eg,vo]
 cases sb (G mv) 0 cap<;>rfl
theorem vr{e:Nat}{str:Bool}{n:O->Option Nat}{hi:Option D}:Eg (G (len,e)) U str n (J (G a)) lo hi U K h=RY (n e) (G a) len len lo hi K h:=rfl
def Zi7(s:ByteArray)(lo:Option D)(b:Option Nat)(K:D->Hp->Prop)(h:Hp):Prop:=
 match b with
 | some b=>(match sb lo 0 b with|some l=>K (.string (s.extract l b)) h|none=>False)
 | none=>False
theorem vu{n:O->Option Nat}{s:ByteArray}{hi:Option D}:Eg U U true n (.string s) lo hi U K h=Zi7 s lo (sb hi s.size s.size) K h:=rfl
theorem vw{e:Nat}{n b':O->Option Nat}{z:O->Option (List D)}{k':IntKind}{l c:Int}:vMk (G e) n b' z (.int k l) (.int k' c) K h=Zbq e (n e) (b' e) (z e) l c K h:=rfl
theorem om{e by':Nat}{z:List D}{l c:Int}:Zbq e (G n) (G by') (G z) l c K h =
  if (M z)=n/\0<=l/\l<=c/\c<=9223372036854775807/\(by':Int)*c<=281474976710656 then K (Z (G ⟨h.size,0,U⟩) l.toNat c.toNat) (h.push (Y (Qf c.toNat z).toArray e)) else False:=rfl
theorem ZbR:Ch P T (.field t x i) ty B F h = ∃u,ul (tfl P t i) (ta P) (tn P) (ev F x) (OD u h) h/\ap B u:=rfl
theorem ZbS{i:a5}:Ch P T (.index t x i) ty B F h = ∃u,nt (Xr P t) (WU P t) (ta P) (tn P) (ev F x) (ev F i) (OD u h) h/\ap B u:=rfl
theorem ZbT{lo hi mx:Option a5}:Ch P T (.slice t x lo hi mx) ty B F h = ∃u,Eg (Xr P t) (QR P t) (WU P t) (tn P) (ev F x) (kD F lo) (kD F hi) (kD F mx) (OD u h) h/\ap B u:=rfl
theorem oq{parts:Array (Nat × a5)}:Ch P T (.build t parts) ty B F h = ∃u,NE (tz P t) (Ng P t) (Xr P t) (tn P) (eQ F parts.toList) (OD u h) h/\ap B u:=rfl
theorem Zfz:cl (aU l.toArray)=l:=rfl
theorem OE:hc (h.push (Y l.toArray t)) ⟨b,o,U⟩=if b=h.size then nth l o else hc h ⟨b,o,U⟩:=by
 unfold hc;simp only[a2];by_cases hb:b=h.size
 .subst hb;simp[YR]
 .simp[hb]
theorem kH:rd (h.push (Y l.toArray t)) ⟨b,o,U⟩ n=if b=h.size then (if o+n<=(M l) then G ((l.drop o).take n) else U) else rd h ⟨b,o,U⟩ n:=by
 unfold rd;simp only[a2];by_cases hb:b=h.size
 .subst hb;simp
 .simp[hb]
def AD(x:Option Hp)(o:Obj):Option Hp:=match x with|some h=>G (h.push o)|none=>U
theorem fQ{o:Obj}:AD (G h) o=G (h.push o):=rfl
theorem set_push{o o':Obj}(hb:b<h.size):(h.push o).setIfInBounds b o'=(h.setIfInBounds b o').push o:=by
 apply bb;intro i;simp only[aw,a2,bg,Array.size_setIfInBounds];by_cases h1:b=i
 .subst h1;rw[if_pos rfl,if_pos nc,if_neg nc,if_pos rfl,if_pos hb]
 .rw[if_neg h1];by_cases h2:i=h.size
  .rw[if_pos h2,if_pos h2]
  .rw[if_neg h2,if_neg h2,if_neg h1]
theorem QT{o o':Obj}:(h.push o).setIfInBounds h.size o'=h.push o':=by
 apply bb;intro i;simp only[aw,a2,bg];by_cases h1:h.size=i
 .subst h1;rw[if_pos rfl,if_pos nc,if_pos rfl]
 .rw[if_neg h1,if_neg (fun e=>h1 e.symm),if_neg (fun e=>h1 e.symm)]
theorem vz:QP (h.push (Y l.toArray t)) ⟨b,o,U⟩ v=if b=h.size then (if o<(M l)/\YC v=true then G (h.push (Y (l.set o v).toArray t)) else U) else AD (QP h ⟨b,o,U⟩ v) (Y l.toArray t):=by
 unfold QP;simp only[a2];by_cases hb:b=h.size
 .subst hb;simp only[↓reduceIte,cu,bw,true_and,QT,List.setIfInBounds_toArray]
 .simp only[if_neg hb]
  cases hx:h[b]? with
  | none=>rfl
  | some ob=>
   have ZU:=(a4.1 hx).1
   cases ob with
   | cells c e fr=>
    obtain⟨lo,hi⟩:=fr;simp only;split
    .simp only[AD,set_push ZU]
    .rfl
   | _=>rfl
theorem ZbU{vs:List D}:wr (h.push (Y l.toArray t)) ⟨b,o,U⟩ vs=if b=h.size then (if o+(M vs)<=(M l)/\vs.all YC=true then G (h.push (Y (Y9 l o vs).toArray t)) else U) else AD (wr h ⟨b,o,U⟩ vs) (Y l.toArray t):=by
 unfold wr;simp only[a2];by_cases hb:b=h.size
 .subst hb;simp only[↓reduceIte,cu,bw,true_and,QT]
 .simp only[if_neg hb]
  cases hx:h[b]? with
  | none=>rfl
  | some ob=>
   have ZU:=(a4.1 hx).1
   cases ob with
   | cells c e fr=>
    obtain⟨lo,hi⟩:=fr;simp only;split
    .simp only[AD,set_push ZU]
    .rfl
   | _=>rfl
end
def JP(h:Hp)(b o:Nat)(cs:List D):Prop:=∀i (hi:i<(M cs)),hc h ⟨b,o+i,U⟩=G cs[i]
def Sl(n:Nat)(h:Hp)(v:D)(m:Nat)(cs:List D):Prop:=
 ∃p cap,v=Z p m cap/\(M cs)=m*n/\(cs≠[]->∃b o,p=G ⟨b,o,U⟩/\JP h b o cs)
def UE(B:Nat)(E:O)(n:Nat)(h:Hp)(v:D)(m:Nat)(cs:List D):Prop:=
 ((∃p,v=Z p 0 0)/\m=0/\cs=[]) \/
 ∃b cap ZG,B<=b/\v=Z (G ⟨b,0,U⟩) m cap/\h[b]? = G (Y (cs++ZG).toArray E (0,0))/\(M cs)=m*n/\(M ZG)=(cap-m)*n/\m<=cap
structure Zk(B:Nat)(h h':Hp):Prop where
 size:h.size<=h'.size
 block:∀b,b<B->h'[b]? = h[b]?
theorem Zk.refl(B:Nat)(h:Hp):Zk B h h:=⟨bw _,fun _ _=>rfl⟩
theorem Zk.trans{LW:Hp}(a:Zk B h h')(b:Zk B h' LW):Zk B h LW:=
 ⟨Nat.le_trans a.size b.size,fun k hk=>(b.block k hk).trans (a.block k hk)⟩
theorem Zk.mono{B':Nat}(a:Zk B h h')(hB:B'<=B):Zk B' h h':=⟨a.size,fun k hk=>a.block k (Nat.lt_of_lt_of_le hk hB)⟩
theorem Zk.push(hB:B<=h.size)(o:Obj):Zk B h (h.push o):=
 ⟨Hg,fun k hk=>by rw[a2,if_neg nc]⟩
theorem Zk.set(hb:B<=b)(o:Obj):Zk B h (h.setIfInBounds b o):=
 ⟨Hg,fun k hk=>by rw[aw,if_neg nc]⟩
theorem Zk.hc(a:Zk B h h'){p:Addr}(hp:p.block<B):hc h' p=hc h p:=by unfold V.hc;rw[a.block _ hp]
theorem Za{o:Obj}(hb:h[b]? = G o):b<h.size:=(a4.1 hb).1
theorem WZ{p:Addr}(hp:hc h p=G v):p.block<h.size:=by
 unfold hc at hp
 cases hb:h[p.block]? with
 | none=>rw[hb]at hp;cases hp
 | some o=>exact Za hb
theorem SM{c:Array D}{fr:Nat × Nat}(hb:h[b]? = G (Y c e fr))(o:Nat):hc h ⟨b,o,U⟩=c[o]?:=by
 unfold hc;simp only[hb];rfl
theorem Zk.JP(a:Zk B h h')(hb:b<B)(XE:JP h b o cs):JP h' b o cs:=
 fun i hi=>by rw[a.hc (by exact hb)];exact XE i hi
theorem Sl.Yy(s:Sl n h v m cs)(a:Zk h.size h h'):Sl n h' v m cs:=by
 obtain⟨p,cap,hv,hl,hc⟩:=s;refine⟨p,cap,hv,hl,fun Y4=>?_⟩;obtain⟨b,o,hp,XE⟩:=hc Y4;refine⟨b,o,hp,a.JP ?_ XE⟩;have H5:0<(M cs):=bA.2 Y4;exact WZ (XE 0 H5)
theorem UE.sl(s:UE B E n h v m cs):Sl n h v m cs:=by
 rcases s with⟨⟨p,rfl⟩,rfl,rfl⟩|⟨b,cap,ZG,hB,rfl,hb,hl,_,_⟩
 .exact⟨p,0,rfl,Hg,fun h=>(h rfl).elim⟩
 .refine⟨_,cap,rfl,hl,fun _=>⟨b,0,rfl,fun i hi=>?_⟩⟩;rw[SM hb,b7];simp[bS hi]
theorem UE.nil(B:Nat)(E:O)(n:Nat)(h:Hp):UE B E n h (Z U 0 0) 0 []:=.inl ⟨⟨U,rfl⟩,rfl,rfl⟩
theorem UE.Eo(B:Nat)(E:O)(n:Nat)(h:Hp)(p:Option Addr):UE B E n h (Z p 0 0) 0 []:=.inl ⟨⟨p,rfl⟩,rfl,rfl⟩
def Yf:D->Option Nat
 | Z (G a) _ cap=>if cap=0 then U else G a.block
 | _=>U
structure Rt(x:Option Nat)(h h':Hp):Prop where
 size:h.size<=h'.size
 block:∀b,b<h.size->x≠G b->h'[b]? = h[b]?
theorem Rt.Yy{x:Option Nat}(a:Rt x h h')(hB:B<=h.size)(hx:∀b,x=G b->B<=b):Zk B h h':=
 ⟨a.size,fun k hk=>a.block k nc (fun e=>by have:=hx k e;omega)⟩
theorem UE.ZX(s:UE B E n h v m cs):∀b,Yf v=G b->B<=b:=by
 intro b hb;rcases s with⟨⟨p,rfl⟩,_,_⟩|⟨b',cap,ZG,hB,rfl,_⟩
 .cases p<;>simp[Yf]at hb
 .simp only[Yf]at hb;split at hb
  .cases hb
  .simp only[Option.some.injEq]at hb;omega
theorem UE.kI(s:UE B E n h v m cs){x:Option Nat}(a:Rt x h h')(hx:∀b,Yf v=G b->x≠G b):UE B E n h' v m cs:=by
 rcases s with s|⟨b,cap,ZG,hB,rfl,hb,r⟩
 .exact .inl s
 .by_cases hc:cap=0
  .subst hc;obtain⟨r1,r2,r3⟩:=r;have hm:m=0:=nc;subst hm;exact .inl ⟨⟨_,rfl⟩,rfl,a1 (by simpa using r1)⟩
  .exact .inr ⟨b,cap,ZG,hB,rfl,by rw[a.block b (Za hb) (hx b (by simp[Yf,hc]))];exact hb,r⟩
theorem Rt.push(o:Obj){x:Option Nat}:Rt x h (h.push o):=⟨Hg,fun k hk _=>by rw[a2,if_neg nc]⟩
theorem Rt.refl{x:Option Nat}:Rt x h h:=⟨bw _,fun _ _ _=>rfl⟩
theorem UE.push(s:UE B E n h v m cs)(o:Obj):UE B E n (h.push o) v m cs:=
 s.kI (x:=U) (Rt.push o) (fun _ _=>by simp)
theorem UE.Yy{C:Nat}(s:UE B E n h v m cs)(a:Zk C h h')(hC:h.size<=C):UE B E n h' v m cs:=
 s.kI (x:=U) ⟨a.size,fun b hb _=>a.block b nc⟩ (fun _ _=>by simp)
theorem UE.mono{B':Nat}(s:UE B E n h v m cs)(hB:B'<=B):UE B' E n h v m cs:=by
 rcases s with s|⟨b,cap,ZG,hb,r⟩
 .exact .inl s
 .exact .inr ⟨b,cap,ZG,nc,r⟩
section
variable {P:aa} {T:am} {K:D->Hp->Prop} {F:Env} {h:Hp} {ty:O}
theorem YA(s:Sl n h v m cs){Q:Array D->Hp->Prop}(H:Q cs.toArray h):hw P (Builtin.firstCells n m v) Q h:=by
 obtain⟨p,cap,rfl,hl,hc⟩:=s
 cases p with
 | none=>
  have:cs=[]:=by
   cases cs with
   | nil=>rfl
   | cons x l=>obtain⟨b,o,hp,_⟩:=hc Hg;cases hp
  subst this;exact H
 | some a=>
  show hw P (loadCells a (m*n)) Q h;rw[<-hl];refine run_loadCells a cs _ 0 #[] (fun j hj=>?_) rfl (by simpa using H);obtain⟨b,o,hp,XE⟩:=hc (by intro e;subst e;simp at hj);simp only[Option.some.injEq]at hp;subst hp;rw[XJ,b7,XE j hj];simp[hj]
theorem Sl.lenOf(s:Sl n h v m cs){Q:Nat->Hp->Prop}:hw P (Builtin.lenOf v) Q h=Q m h:=by
 obtain⟨p,cap,rfl,_,_⟩:=s;rfl
theorem Tb(l r vs:List D):Y9 (l++r) (M l) vs=l++Y9 r 0 vs:=by
 induction l with
 | nil=>simp
 | cons x l ih=>
  cases vs with
  | nil=>simp[Y9]
  | cons v vs=>simp only[cy,be,Y9];rw[ih]
theorem UM(r vs:List D)(h:(M vs)<=(M r)):Y9 r 0 vs=vs++r.drop (M vs):=by
 induction vs generalizing r with
 | nil=>simp[Y9]
 | cons v vs ih=>
  cases r with
  | nil=>simp at h
  | cons x r=>simp only[Y9,cy,be,ch];rw[ih r (by simpa using h)]
theorem Xn(z:Array D)(n:Nat):(b0 z n).size=n*z.size:=by simp[b0]
theorem Tc(Wz cap bytes:Nat)(ZU:cap<Wz)(hb:Wz*bytes<=140737488355328):a7 Wz cap*bytes<=281474976710656:=by
 have g1:∀(r c:Nat),Wz<=c->bd Wz r c=c:=by
  intro r c hc
  cases r with
  | zero=>rfl
  | succ r=>simp[bd,hc]
 have g2:∀(r c:Nat),c<Wz->bd Wz r c<=Wz+(Wz+768)/4:=by
  intro r
  induction r with
  | zero=>intro c hc;simp only[bd];omega
  | succ r ih=>
   intro c hc;simp only[bd];rw[if_neg nc];by_cases h2:c+(c+768)/4<Wz
   .exact ih _ h2
   .rw[g1 r _ nc];omega
 have key:a7 Wz cap<=2*Wz+192:=by
  unfold a7;split
  .omega
  .split
   .omega
   .have:=g2 4 cap ZU;omega
 have e1:a7 Wz cap*bytes<=(2*Wz+192)*bytes:=a9 _ key;unfold a7;split
 .omega
 .rename_i h1;split
  .have:2*cap*bytes<=2*Wz*bytes:=a9 _ nc;have e:2*Wz*bytes=2*(Wz*bytes):=by rw[Nat.mul_assoc]
   omega
  .rename_i h2;have hg:=g2 4 cap ZU;have h3:bd Wz 4 cap*bytes<=(Wz+(Wz+768)/4)*bytes:=a9 _ hg;have h4:(Wz+(Wz+768)/4)*bytes<=(2*Wz)*bytes:=a9 _ nc;have e:2*Wz*bytes=2*(Wz*bytes):=by rw[Nat.mul_assoc]
   omega
theorem Ge{sT xT E E' k bytes:Nat}{s:D}{news zs:List D}{cb:Array Bool}(VI:QR P sT=G E)(Co:P.underlying xT=G (.slice E'))(hn:tn P E=G n)(hz:tz P E=G zs)(fR:(M zs)=n)(OC:tb P E=G bytes)(Zq:UE B E n h v m cs)(hB:B<=h.size)(src:Sl n h s k news)(XV:news.all YC=true)(Y7:(m+k)*bytes<=140737488355328)(Gf:1<=bytes)(H:∀v' h',UE B E n h' v' (m+k) (cs++news)->Rt (Yf v) h h'->K v' h'):Pm P T .append #[sT,xT] ty cb [v,s] K h:=by
 unfold QR at VI;split at VI
 .rename_i e' hu;simp only[Option.some.injEq]at VI;subst VI;show hw P (do pure (.value (<-b8 #[sT,xT] ty #[v,s]))) (Jt P T K) h;rw[Zm];show hw P (b8 #[sT,xT] ty #[v,s]) K h;obtain⟨i0,Pg⟩:∃i,P.info? e'=G i:=by
   unfold tn at hn
   cases hi:P.info? e' with
   | none=>rw[hi]at hn;cases hn
   | some i=>exact⟨i,rfl⟩
  have NH:i0.bytes=bytes:=by unfold tb at OC;rw[Pg]at OC;simpa using OC
  obtain⟨z0,BV,fS⟩:∃z,i0.zero=G z/\z.cells.toList=zs:=by
   unfold tz at hz;rw[Pg]at hz
   cases Hv:i0.zero with
   | none=>rw[au,Hv]at hz;cases hz
   | some z=>rw[au,Hv]at hz;exact⟨z,rfl,by simpa using hz⟩
  have hvs:∃base cap,v=Z base m cap:=by
   rcases Zq with⟨⟨p,rfl⟩,rfl,_⟩|⟨b,cap,sp,_,rfl,_⟩
   .exact⟨_,_,rfl⟩
   .exact⟨_,_,rfl⟩
  obtain⟨base,cap,hv⟩:=hvs;subst hv;have ov:∀{Q:D->Hp->Prop} (g:Hp),hw P (zeroValue e') Q g=Q z0 g:=fun {Q} g=>by
   unfold zeroValue;rw[Zm,XZ Pg];simp only[BV];rfl
  simp only[b8,cc,b4,b5,Zm,ZN,ZH hu,ZH Co,run_sizeOf hn,a3,if_false,src.lenOf,Bool.not_false,if_true];by_cases Qg:m+k<=cap
  .rw[if_pos Qg,Zm];refine YA src ?_;have VJ:(M news)=k*n:=by obtain⟨_,_,_,hl,_⟩:=src;exact hl
   by_cases Y4:news=[]
   .subst Y4;have vA:hw P (match base with|some a=>(do storeCells (a.add (m*n)) [];pure (Value.slice base (m+k) cap))|none=>pure (Value.slice base (m+k) cap)) K h=K (Z base (m+k) cap) h:=by
     cases base<;>rfl
    have hK:K (Z base (m+k) cap) h:=by
     refine H _ _ ?_ Rt.refl;rcases Zq with⟨⟨p,h1⟩,h2,h3⟩|⟨b,Gg,ZG,Hx,h1,hb,hl,Ni,tC⟩
     .simp only[Value.slice.injEq]at h1;obtain⟨rfl,rfl,rfl⟩:=h1;have hk:k=0:=nc;subst hk;subst h3;exact .inl ⟨⟨_,rfl⟩,rfl,rfl⟩
     .simp only[Value.slice.injEq]at h1;obtain⟨rfl,_,rfl⟩:=h1;have tD:k*n=0:=by simpa using VJ.symm
      refine .inr ⟨b,cap,ZG,Hx,rfl,by simpa using hb,by rw[List.append_nil,hl,bk,tD];rfl,?_,Qg⟩;rw[Ni,cA,cA,bk,tD,cr]
    cases base<;>exact hK
   rcases Zq with⟨⟨p,h1⟩,h2,h3⟩|⟨b,Gg,ZG,Hx,h1,hb,hl,Ni,tC⟩
   .simp only[Value.slice.injEq]at h1;obtain⟨rfl,rfl,rfl⟩:=h1;have hk:k=0:=nc;subst hk;exact (Y4 (a1 (by simpa using VJ))).elim
   .simp only[Value.slice.injEq]at h1;obtain⟨rfl,_,rfl⟩:=h1;simp only[Zm,XJ];have Rv:(M news)<=(M ZG):=by rw[VJ,Ni];exact a9 _ nc
    refine YV (e:=e') (lo:=0) (hi:=0) rfl (bw _) news 0 h (cs++ZG).toArray hb ?_ XV ?_
    .simp;rw[<-hl];omega
    .simp only[ZN,b7,cr];refine H _ _ (.inr ⟨b,cap,ZG.drop (M news),Hx,rfl,?_,?_,?_,Qg⟩) ⟨Hg,fun b' Qa hx=>?_⟩
     .rw[aw,if_pos rfl,if_pos (Za hb)];rw[<-hl,Tb,UM _ _ Rv,List.append_assoc]
     .rw[bh,hl,VJ,bk]
     .rw[cw,Ni,VJ,<-cA];congr 1;omega
     .rw[aw,if_neg];intro e;subst e;have hcz:cap≠0:=by
       intro h0;subst h0;have:k=0:=nc;subst this;exact Y4 (a1 (by simpa using VJ))
      exact hx (by simp[Yf,hcz])
  .rw[if_neg Qg];have W0:¬a7 (m+k) cap*i0.bytes>2 ^ 48:=by
    rw[NH];have:=Tc (m+k) cap bytes nc Y7;omega
   have fU:¬i0.bytes=0:=by rw[NH];omega
   simp only[Zm,XZ Pg,fU,or_false,and_false,if_false,if_neg W0];intro t;obtain⟨c,hc⟩:=ZQ (Question.cut (Question.appendCap (m+k) cap e') t);have vB:m+k<=c:=by rw[hc];simp only[Question.cut];omega
   rw[<-hc];have SK:∀{Q:Unit->Hp->Prop} (b:Nat) (g:Hp),Q () g->hw P (askRoom b) Q g:=fun {Q} b g q=>by
    unfold askRoom;split<;>exact q
   refine SK _ _ (YA Zq.sl (YA src ?_));rw[ov];have vC:z0.cells.size=n:=by rw[<-fR,<-fS];simp
   refine H (Z (G ⟨h.size,0,U⟩) (m+k) c) _ (.inr ⟨h.size,c,(b0 z0.cells (c-(m+k))).toList,hB,rfl,?_,?_,?_,vB⟩) (Rt.push _)
   .rw[Array.getElem?_push_size];simp
   .have VJ:(M news)=k*n:=by obtain⟨_,_,_,hl,_⟩:=src;exact hl
    have JZ:(M cs)=m*n:=by obtain⟨_,_,_,hl,_⟩:=Zq.sl;exact hl
    rw[bh,JZ,VJ,bk]
   .rw[Array.length_toList,Xn,vC]
 .cases VI
def bv(x:Nat):D:=.int .u8 x
structure Bs(h:Hp)(v:D)(l:List Nat):Prop where
 sl:Sl 1 h v (M l) (l.map bv)
 byte:∀x∈l,x<256
structure Yx(B:Nat)(E:O)(h:Hp)(v:D)(l:List Nat):Prop where
 Zq:UE B E 1 h v (M l) (l.map bv)
 byte:∀x∈l,x<256
theorem Yx.bs{l:List Nat}(s:Yx B E h v l):Bs h v l:=⟨s.Zq.sl,s.byte⟩
theorem Bs.Yy{l:List Nat}(s:Bs h v l)(a:Zk h.size h h'):Bs h' v l:=⟨s.sl.Yy a,s.byte⟩
theorem Yx.Yy{C:Nat}{l:List Nat}(s:Yx B E h v l)(a:Zk C h h')(hC:h.size<=C):Yx B E h' v l:=⟨s.Zq.Yy a hC,s.byte⟩
theorem Yx.mono{B':Nat}{l:List Nat}(s:Yx B E h v l)(hB:B'<=B):Yx B' E h v l:=⟨s.Zq.mono hB,s.byte⟩
theorem Yx.push{l:List Nat}(s:Yx B E h v l)(o:Obj):Yx B E (h.push o) v l:=⟨s.Zq.push o,s.byte⟩
theorem Yx.nil(B:Nat)(E:O)(h:Hp):Yx B E h (Z U 0 0) []:=⟨UE.nil B E 1 h,fun _ h=>by cases h⟩
theorem Rw(l:List Nat):(l.map bv).all YC=true:=by simp[bv,YC]
theorem Bs.open{l:List Nat}(s:Bs h v l):∃p cap,v=Z p (M l) cap/\(l≠[]->∃b o,p=G ⟨b,o,U⟩/\b<h.size/\∀i (hi:i<(M l)),hc h ⟨b,o+i,U⟩=G (.int .u8 (l[i]:Nat))):=by
 obtain⟨⟨p,cap,hv,_,hc⟩,_⟩:=s;refine⟨p,cap,hv,fun Y4=>?_⟩;obtain⟨b,o,hp,XE⟩:=hc (by simpa using Y4);refine⟨b,o,hp,?_,fun i hi=>?_⟩
 .exact WZ (XE 0 (by simpa using bA.2 Y4))
 .have:=XE i (by simpa using hi)
  simpa [bv] using this
end
attribute [go_sem] Zbw Zfq Zbx Zfr Zby uB nF Zbz ZbA uy uz nE uA fi uw ff fh Ar ut
 TQ Zfx uK nK ZbG nr Zr nL ZbH IY Wo fv nM cl nN nO EX H9 uL fw Aw Cj Ek
 Ga fy Ax Gb fB Ay ZbJ nP nQ Gc Ck nR fE
 uM uN uO uP uQ uR ZbK uS Az uT uU uV uW uX uY uZ vd ZbL ZbM ZbN nT AA
 nU nV Cl El ZbO ZbP uE fj fm At Zfs ZbB tq uF fo uH fp uI nG fq nH Au Zft ZbD nI nJ Av H8 ZbE Ci ZbF Zfv uJ Zfw NJ
 HX QO NB a0 au Option.isSome_some decide_eq_true_eq decide_eq_false_iff_not
attribute [go_sem] nX fF AB nY Em fG Cn fH Gd En fI AC nZ vg fJ vj ZbQ Zfy fK fL fM fN fO vq fP vr vu
 vw om ZbR ZbS ZbT oq Zfz OE kH fQ vz ZbU eQ kD nth Y9 eW Hq YC List.toList_toArray be cR ch List.drop_zero List.take_succ_cons List.take_zero cn co
 br List.all_nil Bool.and_true bg b7 List.take_nil List.drop_nil
def vi:D->Int|.int _ n=>n|_=>0
theorem Y2(l:List α)(i:Nat)(hi:i<(M l)):l.take (i+1)=l.take i++[l[i]]:=List.take_succ_eq_append_getElem hi
def w64(n:Int):Int:=IntKind.i64.wrap n
theorem fV(n:Int):IntKind.i64.wrap n=if -9223372036854775808<=n/\n<=9223372036854775807 then n else w64 n:=by
 split
 .rename_i h;exact cg n h
 .rfl
theorem AE(n:Int):IntKind.u8.wrap n=n%256:=by simp[IntKind.wrap,IntKind.bits,IntKind.signed]
theorem MD(n:Int):IntKind.u32.wrap n=n%4294967296:=by simp[IntKind.wrap,IntKind.bits,IntKind.signed]
theorem ME(n:Int):IntKind.u64.wrap n=n%18446744073709551616:=by simp[IntKind.wrap,IntKind.bits,IntKind.signed]
attribute [go_sem] fV AE MD ME true_and and_true ne_eq not_true_eq_false not_false_eq_true decide_true decide_false Bool.false_eq_true Int.toNat_natCast Nat.mul_one
theorem LY(w a:Nat):BitVec.ofInt w (a:Int)=BitVec.ofNat w a:=by
 apply BitVec.eq_of_toNat_eq;simp[BitVec.toNat_ofNat]
theorem SN(k:IntKind)(n:Nat)(h:n<2 ^ (if k.signed then k.bits-1 else k.bits)):k.wrap (n:Int)=n:=by
 cases k<;>simp[IntKind.wrap,IntKind.bits,IntKind.signed]at h ⊢<;>omega
theorem OF(k:IntKind)(a b:Nat)(ha:a<2 ^ (if k.signed then k.bits-1 else k.bits))(hb:b<2 ^ (if k.signed then k.bits-1 else k.bits)):YM .and k a b=((a &&& b:Nat):Int):=by
 have hle:2 ^ (if k.signed then k.bits-1 else k.bits)<=2 ^ k.bits:=bx nc (by split<;>omega);simp only[YM,LY];rw[BitVec.toNat_and,BitVec.toNat_ofNat,BitVec.toNat_ofNat,a8 nc,a8 nc];exact SN k _ (Nat.lt_of_le_of_lt Nat.and_le_left ha)
theorem MF(k:IntKind)(a b:Nat)(ha:a<2 ^ (if k.signed then k.bits-1 else k.bits))(hb:b<2 ^ (if k.signed then k.bits-1 else k.bits)):YM .or k a b=((a ||| b:Nat):Int):=by
 have hle:2 ^ (if k.signed then k.bits-1 else k.bits)<=2 ^ k.bits:=bx nc (by split<;>omega);simp only[YM,LY];rw[BitVec.toNat_or,BitVec.toNat_ofNat,BitVec.toNat_ofNat,a8 nc,a8 nc];exact SN k _ (Nat.or_lt_two_pow ha hb)
theorem EY(k:IntKind)(a b:Nat)(ha:a<2 ^ (if k.signed then k.bits-1 else k.bits))(hb:b<2 ^ (if k.signed then k.bits-1 else k.bits)):YM .xor k a b=((a ^^^ b:Nat):Int):=by
 have hle:2 ^ (if k.signed then k.bits-1 else k.bits)<=2 ^ k.bits:=bx nc (by split<;>omega);simp only[YM,LY];rw[BitVec.toNat_xor,BitVec.toNat_ofNat,BitVec.toNat_ofNat,a8 nc,a8 nc];exact SN k _ (Nat.xor_lt_two_pow ha hb)
theorem vD(a b:Nat)(ha:a<256)(hb:b<256):YM .and .u8 a b=((a &&& b:Nat):Int):=OF .u8 a b ha hb
theorem Zi8(a b:Nat)(ha:a<256)(hb:b<256):YM .or .u8 a b=((a ||| b:Nat):Int):=MF .u8 a b ha hb
theorem Cp(a b:Nat)(ha:a<256)(hb:b<256):YM .xor .u8 a b=((a ^^^ b:Nat):Int):=EY .u8 a b ha hb
theorem MG(a b:Nat)(ha:a<4294967296)(hb:b<4294967296):YM .and .u32 a b=((a &&& b:Nat):Int):=OF .u32 a b ha hb
theorem PA(a b:Nat)(ha:a<4294967296)(hb:b<4294967296):YM .or .u32 a b=((a ||| b:Nat):Int):=MF .u32 a b ha hb
theorem Uf(a b:Nat)(ha:a<4294967296)(hb:b<4294967296):YM .xor .u32 a b=((a ^^^ b:Nat):Int):=EY .u32 a b ha hb
theorem ZbV(a b:Nat)(ha:a<18446744073709551616)(hb:b<18446744073709551616):YM .and .u64 a b=((a &&& b:Nat):Int):=OF .u64 a b ha hb
theorem fW(a b:Nat)(ha:a<18446744073709551616)(hb:b<18446744073709551616):YM .or .u64 a b=((a ||| b:Nat):Int):=MF .u64 a b ha hb
theorem ZbW(a b:Nat)(ha:a<9223372036854775808)(hb:b<9223372036854775808):YM .and .i64 a b=((a &&& b:Nat):Int):=OF .i64 a b ha hb
theorem NK(a b:Nat)(ha:a<9223372036854775808)(hb:b<9223372036854775808):YM .or .i64 a b=((a ||| b:Nat):Int):=MF .i64 a b ha hb
theorem OG(k:IntKind)(a n:Nat)(hn:n<=k.bits):Xx k a n=((a >>> n:Nat):Int):=by
 simp only[Xx,cv,cS hn];rw[Int.fdiv_eq_ediv_of_nonneg _ (Int.le_of_lt (Int.pow_pos nc)),Nat.shiftRight_eq_div_pow];simp
theorem Cq(k:IntKind)(a n:Nat)(hn:n<=k.bits):Xm k a n=k.wrap ((a*2 ^ n:Nat):Int):=by
 simp only[Xm,cv,cS hn];simp
theorem Cr(a b:Nat):a ^^^ b=0↔a=b:=by
 constructor
 .intro h;have h2:a ^^^ b ^^^ b=0 ^^^ b:=by rw[h]
  rwa [Nat.xor_assoc,Nat.xor_self,Nat.xor_zero,Nat.zero_xor]at h2
 .intro h;subst h;exact Nat.xor_self a
theorem AF(a b:Nat):a ||| b=0↔a=0/\b=0:=by
 simp
open Go.ChangeShapes Go.WideShapes Go.ChangeAt Go.RowKit
def fit(P:aa)(h:Hp):Nat->O->List D->Prop
 | 0,_,_=>False
 | k+1,t,cs=>
  match P.underlying t with
  | some .bool=>∃b,cs=[al b]
  | some (.int i)=>∃n,cs=[.int i n]/\(Lit.int i n).wf=true
  | some .string=>∃s,cs=[.string s]/\s.size<=reachBytes
  | some (.slice e)=>∃p len cap,cs=[Z p len cap]/\len<=cap/\cap*P.bytesOf e<=reachBytes /\
    (len≠0->P.cellsOf e≠0->∃b o,p=G ⟨b,o,U⟩/\b<h.size/\∀i,i<len->∃ds,(M ds)=P.cellsOf e/\JP h b (o+i*P.cellsOf e) ds/\fit P h k e ds)
  | some (.struct fs)=>(M cs)=P.cellsOf t/\∀f∈fs.toList,fit P h k f.type ((cs.drop f.offset).take (P.cellsOf f.type))
  | some (.array n e)=>(M cs)=P.cellsOf t/\∀i,i<n->fit P h k e ((cs.drop (i*P.cellsOf e)).take (P.cellsOf e))
  | _=>True
def Cs(P:aa)(h:Hp)(k:Nat)(t:O)(v:D):Prop:=
 match ta P t with
 | some true=>∃cs:List D,v=aU cs.toArray/\fit P h k t cs
 | _=>fit P h k t [v]
def fitAll(P:aa)(h:Hp):List O->List D->Prop
 | [],[]=>True
 | t :: ts,v :: vs=>(∃k,Cs P h k t v)/\fitAll P h ts vs
 | _,_=>False
theorem SO{β:Type}{f:α->Option β}:∀{l:List α} {r:List β},l.mapM f=G r->(M r)=(M l)/\∀(i:Nat) (x:α) (y:β),l[i]? = G x->r[i]? = G y->f x=G y
 | [],r,h=>by
  simp only[cT,pure,Option.some.injEq]at h;subst h;exact⟨rfl,fun i x y hx _=>by simp at hx⟩
 | a :: l,r,h=>by
  rw[bG]at h
  cases ha:f a with
  | none=>rw[ha]at h;cases h
  | some b=>
   rw[ha]at h
   cases hl:l.mapM f with
   | none=>simp[hl]at h
   | some bs=>
    simp[hl]at h;subst h;obtain⟨h1,h2⟩:=SO hl;refine⟨by simp[h1],fun i x y hx hy=>?_⟩
    cases i with
    | zero=>simp at hx hy;subst hx;subst hy;exact ha
    | succ i=>simp at hx hy;exact h2 i x y hx hy
theorem Gi{w:am}{base:Nat}{ds:List D}(h:w.cells? base a n=G ds):(M ds)=n/\∀i (hi:i<(M ds)),w.cell? (a.add i)=G ds[i]:=by
 unfold World.cells? at h;split at h
 .obtain⟨h1,h2⟩:=SO h;rw[b1]at h1;refine⟨h1,fun i hi=>h2 i i ds[i] ?_ ?_⟩
  .rw[bB nc]
  .exact a6 hi
 .cases h
theorem oB{w:am}(h:w.cell? (a.add i)=G v)(hi:i=0):a.spot=U:=by
 subst hi;have e:a.add 0=a:=by simp[Addr.add]
 rw[e]at h;unfold World.cell? at h;split at h
 .split at h
  .cases h
  .rename_i hs;simpa using hs
 .cases h
theorem RZ{H:Type}{q:Nat->Bool}:∀(ts:List O) (ds:List (DataW H)),(DataW.weightsEach P ts ds).all q=true->∀(i:Nat) (t:O) (d:DataW H),ts[i]? = G t->ds[i]? = G d->(d.weights P t).all q=true
 | [],_,_,i,t,d,ht,_=>by simp at ht
 | t :: ts,[],_,i,t',d,_,hd=>by simp at hd
 | t :: ts,d :: ds,h,i,t',d',ht,hd=>by
  simp only[DataW.weightsEach,bz,aI]at h
  cases i with
  | zero=>simp at ht hd;subst ht;subst hd;exact h.1
  | succ i=>simp at ht hd;exact RZ ts ds h.2 i t' d' ht hd
theorem Td{H:Type}{q:Nat->Bool}:∀(ds:List (DataW H)),(DataW.weightsAll P e ds).all q=true->∀(i:Nat) (d:DataW H),ds[i]? = G d->(d.weights P e).all q=true
 | [],_,i,d,hd=>by simp at hd
 | d :: ds,h,i,d',hd=>by
  simp only[DataW.weightsAll,bz,aI]at h
  cases i with
  | zero=>simp at hd;subst hd;exact h.1
  | succ i=>simp at hd;exact Td ds h.2 i d' hd
theorem TU{H:Type}{enc:O × D->H}{w:am}:∀(k:Nat) (t:O) (cs:List D) (d:DataW H) (ps:List MemPlace),
  DataW.trod enc P w 0 (fun _=>true) true k t cs=G (d,ps)->(d.weights P t).all (· <= reachBytes)=true->fit P w.heap k t cs
 | 0,t,cs,d,ps,h,_=>by simp[DataW.trod]at h
 | k+1,t,cs,d,ps,h,hw=>by
  unfold DataW.trod at h;unfold fit;split at h
  .rename_i hu;rw[hu];exact⟨_,rfl⟩
  .rename_i i i' n hu;rw[hu];split at h
   .rename_i hc;obtain⟨rfl,hc⟩:=hc;exact⟨_,rfl,hc⟩
   .cases h
  .rename_i hu;rw[hu];trivial
  .rename_i s hu;rw[hu];split at h
   .simp only[Option.some.injEq,Prod.mk.injEq]at h;obtain⟨rfl,_⟩:=h;refine⟨_,rfl,?_⟩
    simpa [DataW.weights] using hw
   .cases h
  .rename_i hu;rw[hu];trivial
  .rename_i hu;rw[hu];trivial
  .rename_i e hu;rw[hu];exact⟨_,_,_,rfl,bw _,Hg,fun h=>(h rfl).elim⟩
  .rename_i e a len cap hu;rw[hu];split at h
   .rename_i MA;simp only[if_true]at h
    cases he:((bn len).mapM fun i=>(w.cells? 0 (a.add (i*P.cellsOf e)) (P.cellsOf e)).bind (DataW.trod enc P w 0 (fun _=>true) true k e)) with
    | none=>rw[he]at h;cases h
    | some elems=>
     rw[he]at h;simp only[au]at h
     cases hr:((bn (cap-len)).mapM fun j=>(w.cells? 0 (a.add ((len+j)*P.cellsOf e)) (P.cellsOf e)).bind (DataW.trod enc P w 0 (fun _=>true) true k e)) with
     | none=>rw[hr]at h;cases h
     | some rest=>
      rw[hr]at h;simp only[a0,Option.some.injEq,Prod.mk.injEq]at h;obtain⟨rfl,_⟩:=h;obtain⟨l1,g1⟩:=SO he;obtain⟨l2,_⟩:=SO hr;rw[b1]at l1 l2;simp only[DataW.weights,hu,br,bz,aI,List.length_map,decide_eq_true_eq]at hw;refine⟨_,_,_,rfl,MA.2.1,?_,fun hlen hce=>?_⟩
      .have:(M elems)+(M rest)=cap:=nc;rw[<-this];exact hw.1
      .have Zi9:∀i,i<len->∃ds x,w.cells? 0 (a.add (i*P.cellsOf e)) (P.cellsOf e)=G ds/\elems[i]? = G x/\DataW.trod enc P w 0 (fun _=>true) true k e ds=G x:=by
        intro i hi;have hx:elems[i]? = G elems[i]:=a6 nc;have:=g1 i i elems[i] (by rw[bB hi]) hx
        cases hc:w.cells? 0 (a.add (i*P.cellsOf e)) (P.cellsOf e) with
        | none=>rw[hc]at this;cases this
        | some ds=>rw[hc]at this;exact⟨ds,_,rfl,hx,this⟩
       obtain⟨ds0,x0,kJ,_,_⟩:=Zi9 0 nc;obtain⟨q1,q2⟩:=Gi kJ;have e0:a.add (0*P.cellsOf e)=a:=by simp[Addr.add]
       rw[e0]at q2;have Ni:a.spot=U:=oB (q2 0 nc) rfl;have ZfB:w.cell? a=G ds0[0]:=by have:=q2 0 nc;simpa [Addr.add] using this
       have ZU:a.block<w.heap.size:=WZ (h:=w.heap) (p:=a) (v:=ds0[0]) ZfB;refine⟨a.block,a.off,?_,ZU,fun i hi=>?_⟩
       .obtain⟨b,o,s⟩:=a;simp only at Ni;subst Ni;rfl
       .obtain⟨ds,x,hc,hx,ht⟩:=Zi9 i hi;obtain⟨r1,r2⟩:=Gi hc;refine⟨ds,r1,fun j hj=>?_,?_⟩
        .have:=r2 j hj;rw[OB a _ Ni,XJ]at this;exact this
        .refine TU k e ds x.1 x.2 ht ?_;exact Td _ hw.2.1 i x.1 (by rw[bl,hx];rfl)
   .cases h
  .rename_i cs _ _ fs hu;rw[hu];split at h
   .rename_i hlen
    cases hm:(fs.toList.mapM fun f=>DataW.trod enc P w 0 (fun _=>true) true k f.type ((cs.drop f.offset).take (P.cellsOf f.type))) with
    | none=>rw[hm]at h;cases h
    | some xs=>
     rw[hm]at h;simp only[a0,Option.some.injEq,Prod.mk.injEq]at h;obtain⟨rfl,_⟩:=h;obtain⟨l1,g1⟩:=SO hm;refine⟨hlen,fun f hf=>?_⟩;obtain⟨i,hi,Ak⟩:=List.mem_iff_getElem.1 hf;have hx:xs[i]? = G xs[i]:=a6 nc;have Zja:fs.toList[i]? = G f:=by rw[a6 hi,Ak]
     refine TU k _ _ xs[i].1 xs[i].2 (g1 i f xs[i] Zja hx) ?_;simp only[DataW.weights,hu]at hw;exact RZ _ _ hw i f.type xs[i].1 (by rw[bl,Zja];rfl) (by rw[bl,hx];rfl)
   .cases h
  .rename_i cs _ _ n e hu;rw[hu];split at h
   .rename_i hlen
    cases hm:((bn n).mapM fun i=>DataW.trod enc P w 0 (fun _=>true) true k e ((cs.drop (i*P.cellsOf e)).take (P.cellsOf e))) with
    | none=>rw[hm]at h;cases h
    | some xs=>
     rw[hm]at h;simp only[a0,Option.some.injEq,Prod.mk.injEq]at h;obtain⟨rfl,_⟩:=h;obtain⟨l1,g1⟩:=SO hm;rw[b1]at l1;refine⟨hlen,fun i hi=>?_⟩;have hx:xs[i]? = G xs[i]:=a6 nc;refine TU k _ _ xs[i].1 xs[i].2 (g1 i i xs[i] (by rw[bB hi]) hx) ?_;simp only[DataW.weights,hu]at hw;exact Td _ hw i xs[i].1 (by rw[bl,hx];rfl)
   .cases h
  all_goals first|(cases h;done)|(rename_i hu;rw[hu];trivial)
theorem ZbX{w:am}{r:Reach}{base:Nat}{cs:Array D}(ha:ta P t=G false)(h:Value.okWide P w r base t (aU cs)):False:=by
 unfold ta at ha;unfold Value.okWide at h
 cases hu:P.underlying t with
 | none=>rw[hu]at ha;cases ha
 | some d=>
  rw[hu]at ha h
  cases d<;>simp at ha<;>simp[Cell.okWide,Cell.ok,hu]at h
theorem ZbY{H:Type}{enc:O × D->H}{w:am}{r:Reach}{base:Nat}{d:DataW H}{ps:List MemPlace}(dY:(ta P t).isSome=true)(Uk:Value.okWide P w r base t v)(h:DataW.Trod enc P w 0 (fun _=>true) true t v d ps)(hw:(d.weights P t).all (· <= reachBytes)=true):∃k,Cs P w.heap k t v:=by
 obtain⟨k,hk⟩:=h;have hf:=TU k t _ d ps hk hw;refine⟨k,?_⟩;unfold Cs
 cases ha:ta P t with
 | none=>rw[ha]at dY;cases dY
 | some b=>
  cases b with
  | true=>
   unfold ta at ha;unfold Value.okWide at Uk
   cases hu:P.underlying t with
   | none=>rw[hu]at ha;cases ha
   | some d'=>
    rw[hu]at ha Uk;have:∃cs,v=aU cs:=by
     cases d'<;>simp at ha<;>(obtain⟨cs,hv,_⟩:=Uk;exact⟨cs,hv⟩)
    obtain⟨cs,rfl⟩:=this;exact⟨cs.toList,Hg,hf⟩
  | false=>
   have:v.cells.toList=[v]:=by
    cases v with
    | agg cs=>exact (ZbX ha Uk).elim
    | _=>rfl
   rw[this]at hf;exact hf
theorem EZ{H:Type}{enc:O × D->H}{w:am}{base:Nat}:∀(ts:List O) (vs:List D) (ds:List (DataW H)) (ps:List MemPlace),
  ts.all (fun t=>(ta P t).isSome)=true->(∀(j:Nat) t v,ts[j]? = G t->vs[j]? = G v->Value.okWide P w .any base t v)->DataW.TrodAll enc P w 0 (fun _=>true) true ts vs ds ps ->
  (DataW.weightsEach P ts ds).all (· <= reachBytes)=true->fitAll P w.heap ts vs
 | [],vs,ds,ps,_,_,h,_=>by
  obtain⟨rfl,rfl,rfl⟩:=trodAll_nil h;trivial
 | t :: ts,vs,ds,ps,ha,hv,h,hw=>by
  obtain⟨v,vs',d,ds',p,q,rfl,rfl,rfl,h1,h2⟩:=trodAll_cons h;simp only[br,aI]at ha;simp only[DataW.weightsEach,bz,aI]at hw;exact⟨ZbY ha.1 (hv 0 t v rfl rfl) h1 hw.1,EZ ts vs' ds' q ha.2 (fun j t v ht AG=>hv (j+1) t v ht AG) h2 hw.2⟩
theorem Nj{H:Type}{enc:O × D->H}(hl:laidOutB P=true){W W':am}(hb:Below W.heap.size W W'):∀(ts:List O) (vs:List D) (ds:List (DataW H)) (ps:List MemPlace),
  ts.all (fun t=>P.readableRec t&&decide (t<P.types.size))=true->DataW.TrodAll enc P W 0 (fun _=>true) true ts vs ds ps->(∀x∈ps,x.block<W.heap.size) ->
  DataW.TrodAll enc P W' 0 (fun b=>decide (b<W.heap.size)) true ts vs ds ps
 | [],vs,ds,ps,_,h,_=>by
  obtain⟨rfl,rfl,rfl⟩:=trodAll_nil h;rfl
 | t :: ts,vs,ds,ps,ha,h,ZU=>by
  obtain⟨v,vs',d,ds',p,q,rfl,rfl,rfl,h1,h2⟩:=trodAll_cons h;simp only[br,aI,decide_eq_true_eq]at ha;exact⟨p,q,Below.trod hl ha.1.1 ha.1.2 h1 hb (fun x hx=>ZU x (by simp[hx])),Nj hl hb ts vs' ds' q ha.2 h2 (fun x hx=>ZU x (by simp[hx])),rfl⟩
theorem PB{H:Type}{enc:O × D->H}{w:am}{sp:Nat->Bool}{hd:Bool}:∀(ts:List O) (vs:List D) (ds:List (DataW H)) (ps:List MemPlace),DataW.TrodAll enc P w b sp hd ts vs ds ps->(M ds)=(M ts)
 | [],vs,ds,ps,h=>by obtain⟨rfl,rfl,rfl⟩:=trodAll_nil h;rfl
 | t :: ts,vs,ds,ps,h=>by
  obtain⟨v,vs',d,ds',p,q,rfl,rfl,rfl,h1,h2⟩:=trodAll_cons h;simp[PB ts vs' ds' q h2]
theorem vE{W W':am}(hs:Sj W W' h')(hb:Zk W.heap.size W.heap h'):Below W.heap.size W W':=
 ⟨hs.os,hs.tape,hs.output,by rw[hs.heap];exact hb.size,fun k hk=>by rw[hs.heap];exact hb.block k hk⟩
theorem vF{rest:List (List Char)}(h:behindMainWord (wordsSigns P.initOrder.toList) = "cut".toList :: rest):P.make=G .cut:=by
 unfold Program.make;rw[h];simp only;rw[if_neg aaa,if_pos (by rfl)]
theorem E6(rest:List (List Char)):stripLifts liftWords ("cut".toList :: rest)=([], "cut".toList :: rest):=by rfl
theorem oC{rest:List (List Char)}(h:behindMainWord (wordsSigns P.initOrder.toList) = "cut".toList :: rest):P.liftsFinal=false:=by
 unfold Program.liftsFinal Program.headLifts;rw[h,E6];rfl
theorem oE{rest:List (List Char)}(h:behindMainWord (wordsSigns P.initOrder.toList) = "cut".toList :: rest)(h1:P.laysLater=false)(h2:P.bearsReflect=false)(h3:P.doorFits []=true):P.mayEnter=true:=by
 unfold Program.mayEnter;rw[h];simp only[E6,h1,h2,h3];rw[Bool.or_eq_true];exact .inr rfl
theorem oF{L:List Char}(h:P.initOrder=String.ofList L)(h2:((behindMainWord (wordsSigns L)).head? == G "cut".toList)=true):∃rest,behindMainWord (wordsSigns P.initOrder.toList) = "cut".toList :: rest:=by
 rw[h,String.toList_ofList]
 revert h2
 cases behindMainWord (wordsSigns L) with
 | nil=>intro h;cases h
 | cons a l=>
  intro h;have h':a = "cut".toList:=by
   have:=eq_of_beq h
   simpa using this
  exact⟨l,by rw[h']⟩
attribute [go_sem ↓] reduceIte
end Go.V
